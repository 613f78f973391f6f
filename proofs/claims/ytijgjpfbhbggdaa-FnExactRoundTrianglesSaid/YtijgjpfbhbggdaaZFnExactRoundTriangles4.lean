/- For every list of points the program's RoundTriangles returns what the reference's returns, new rows, and leaves the list as it was; no condition. -/
import Derived.Test.YtijgjpfbhbggdaaZFnExactRoundTriangles3
import Derived.Test.YtijgjpfbhbggdaaRows
import Derived.Test.YtijgjpfbhbggdaaProg
import Derived.Below
import Derived.Deep.Draws
import Derived.Deep.AppendLies
import Derived.Maps.AppendAt
import Derived.OwnWalk
import Derived.Laws.BytesArg
import Derived.Laws.MakeOwn
import Derived.Laws.OwnMore
import Derived.Deep.OwnRows
import Derived.Tactics
import Derived.Lib.ConvBytes
import Derived.Laws.Slices
import Derived.WalkKit
import Derived.KernelRfl
import Derived.RowKit3
import Derived.Deep.LoopGhost
import Derived.Deep.QuietTactic
import Derived.BigQuiet
import Derived.WideLaws
import Derived.Deep.DeepCutAuto
import Derived.Deep.CutBlock
import Derived.Deep.RegionHeld3
import Derived.Laws.Rows
import Derived.Lib.AppendStr
import Derived.ArgAppend
import Derived.Laws.IdiomCopy
import Derived.OrdersHeld
import Derived.Laws.BitsLemmas
import Derived.RowKit
import Derived.Shelf.Abstract
import Derived.Test.YtijgjpfbhbggdaaWWords
import Derived.Test.YtijgjpfbhbggdaaWLast
import Derived.Test.YtijgjpfbhbggdaaWTab
import Derived.Test.YtijgjpfbhbggdaaWQPut
import Derived.Test.YtijgjpfbhbggdaaWApart
import Derived.Test.YtijgjpfbhbggdaaWArr
import Derived.Test.YtijgjpfbhbggdaaWZeros
import Derived.Test.YtijgjpfbhbggdaaWFoot
import Derived.Test.YtijgjpfbhbggdaaWKept
import Derived.Test.YtijgjpfbhbggdaaWShare
import Derived.Test.YtijgjpfbhbggdaaWN
import Derived.Test.YtijgjpfbhbggdaaWEqStruct
import Derived.Test.YtijgjpfbhbggdaaWRepsOne
import Derived.Test.YtijgjpfbhbggdaaWGuard
import Derived.Test.YtijgjpfbhbggdaaWNEv
import Derived.Test.YtijgjpfbhbggdaaWMore
import Derived.Deep.Slices
import Derived.ChangeOld
import Derived.Carry
import Derived.ProofKit
import Derived.OpenShut
import Derived.ShutString
import Derived.SizedLaws
namespace Go.Proofs.Ytijgjpfbhbggdaa.Pure
open Go.RowKit Go.Proofs.Ytijgjpfbhbggdaa.P Go.Proofs.YtijgjpfbhbggdaaW.PrintWords Go.Proofs.YtijgjpfbhbggdaaW.PrintLast Go.Proofs.Ytijgjpfbhbggdaa.Com
set_option linter.unusedSimpArgs false
set_option linter.unusedVariables false

/-- Three points' circle and a fourth point, out of a list. -/
def sideL (l : List S25) (i j k p : Int) : Int := sideW (rd_T25 l i).f0 (rd_T25 l i).f1 (rd_T25 l j).f0 (rd_T25 l j).f1 (rd_T25 l k).f0 (rd_T25 l k).f1 (rd_T25 l p).f0 (rd_T25 l p).f1
theorem fits50_two {l : List S25} {i : Int} (h : fits50 l i = true) : inB (rd_T25 l i).f0 50 = true ∧ inB (rd_T25 l i).f1 50 = true := by simpa [fits50] using h
theorem side_specL (l : List S25) (i j k p : Int) (hi : fits50 l i = true) (hj : fits50 l j = true) (hk : fits50 l k = true) (hp : fits50 l p = true) :
    spec_l29Side.f (rd_T25 l i).f0 (rd_T25 l i).f1 (rd_T25 l j).f0 (rd_T25 l j).f1 (rd_T25 l k).f0 (rd_T25 l k).f1 (rd_T25 l p).f0 (rd_T25 l p).f1 = some (sideL l i j k p) :=
  side_spec _ _ _ _ _ _ _ _ (fits50_two hi).1 (fits50_two hi).2 (fits50_two hj).1 (fits50_two hj).2 (fits50_two hk).1 (fits50_two hk).2 (fits50_two hp).1 (fits50_two hp).2
theorem side_implL (l : List S25) (i j k p : Int) (hi : fits50 l i = true) (hj : fits50 l j = true) (hk : fits50 l k = true) (hp : fits50 l p = true) :
    impl_SideOfCircle.f (rd_T25 l i).f0 (rd_T25 l i).f1 (rd_T25 l j).f0 (rd_T25 l j).f1 (rd_T25 l k).f0 (rd_T25 l k).f1 (rd_T25 l p).f0 (rd_T25 l p).f1 = some (sideL l i j k p) :=
  side_impl _ _ _ _ _ _ _ _ (fits50_two hi).1 (fits50_two hi).2 (fits50_two hj).1 (fits50_two hj).2 (fits50_two hk).1 (fits50_two hk).2 (fits50_two hp).1 (fits50_two hp).2
def nc (l : List S25) (i j k p : Int) : Bool := !(sideL l i j k p == 0)
/-- Three to six points, no three on a line, no four on a circle. -/
def freeB (l : List S25) : Bool := pointsB l && decide (l.length ≤ 6) && (ints 0 l.length).all fun d => (ints 0 d.toNat).all fun c => (ints 0 c.toNat).all fun b => (ints 0 b.toNat).all fun a => nc l a b c d
theorem freeB_iff (l : List S25) (h : pointsB l = true) (h6 : l.length ≤ 6) : freeB l = true ↔ ∀ a b c d : Int, 0 ≤ a → a < b → b < c → c < d → d < l.length → sideL l a b c d ≠ 0 := by
  unfold freeB
  simp only [h, Bool.true_and, Bool.and_eq_true, decide_eq_true_eq, h6, true_and, List.all_eq_true, ints_mem_iff, nc, Bool.not_eq_true', beq_eq_false_iff_ne]
  constructor
  · intro hh a b c d h0 h1 h2 h3 h4
    exact hh d ⟨by omega, by omega⟩ c ⟨by omega, by omega⟩ b ⟨by omega, by omega⟩ a ⟨by omega, by omega⟩
  · intro hh d hd c hc b hb a ha
    exact hh a b c d (by omega) (by omega) (by omega) (by omega) (by omega)
theorem points_len {l : List S25} (h : pointsB l = true) : 3 ≤ l.length ∧ l.length ≤ 7 := ((pointsB_iff l).1 h).1
theorem points_fit {l : List S25} (h : pointsB l = true) {i : Int} (h0 : 0 ≤ i) (h1 : i < l.length) : fits50 l i = true := ((pointsB_iff l).1 h).2.1 i h0 h1
theorem spec_AreFree_ev (l : List S25) (hl : l.length ≤ 1099511627776) : Ev (fun k => spec_AreFree.f k l) (freeB l) := by
  have stop : Ev (fun k => spec_AreFree.j0 k l true) false := Ev.step (f := fun _ => some false) (fun k => by simp only [spec_AreFree.j0, if_true]) (Ev.now _)
  simp only [spec_AreFree.f]
  refine Ev.bind (spec_ArePoints_ev l hl) ?_
  cases hp : pointsB l with
  | false => rw [show freeB l = false by simp [freeB, hp]]; exact stop
  | true =>
    simp only [if_true]
    by_cases h6 : l.length ≤ 6
    · rw [decide_eq_false (show ¬ (l.length : Int) > 6 by omega)]
      have hF : ∀ i : Int, 0 ≤ i → i < (l.length : Int) → fits50 l i = true := fun i h0 h1 => points_fit hp h0 h1
      have e : freeB l = (ints 0 l.length).all fun d => (ints 0 d.toNat).all fun c => (ints 0 c.toNat).all fun b => (ints 0 b.toNat).all fun a => nc l a b c d := by unfold freeB; simp [hp, h6]
      rw [e]
      refine Ev.step (f := fun k => spec_AreFree.l0 k l 0) (fun k => by simp only [spec_AreFree.j0, Bool.false_eq_true, if_false]) ?_
      refine rangeLoop (σ := Unit) (l := fun k _ i => spec_AreFree.l0 k l i) (l.length : Int) (T := allT _) (allT_mono _) (C := fun _ r => r = true) 0 ?_ ?_ l.length 0 (by omega) (by omega) () _ (allT_done _ _ _ rfl)
      · intro _ d hd0 hdn r hT
        refine Ev.step (f := fun q => spec_AreFree.l1 q l d 0) (fun q => by simp only [spec_AreFree.l0]; rw [if_pos hdn]) ?_
        have hT1 : foldT (allT fun c => (ints 0 c.toNat).all fun b => (ints 0 b.toNat).all fun a => nc l a b c d) (fun _ r => Ev (fun q => spec_AreFree.l0 q l (d + 1)) r) (ints 0 d.toNat) () r := by rw [allT_fold]; exact hT
        refine rangeLoop (σ := Unit) (l := fun q _ j => spec_AreFree.l1 q l d j) d (T := allT _) (allT_mono _) 0 ?_ ?_ d.toNat 0 (by omega) (by omega) () r hT1
        · intro _ c hc0 hcd r hT
          refine Ev.step (f := fun q => spec_AreFree.l2 q l d c 0) (fun q => by simp only [spec_AreFree.l1]; rw [if_pos hcd]) ?_
          have hT2 : foldT (allT fun b => (ints 0 b.toNat).all fun a => nc l a b c d) (fun _ r => Ev (fun q => spec_AreFree.l1 q l d (c + 1)) r) (ints 0 c.toNat) () r := by rw [allT_fold]; exact hT
          refine rangeLoop (σ := Unit) (l := fun q _ j => spec_AreFree.l2 q l d c j) c (T := allT _) (allT_mono _) 0 ?_ ?_ c.toNat 0 (by omega) (by omega) () r hT2
          · intro _ b hb0 hbc r hT
            refine Ev.step (f := fun q => spec_AreFree.l3 q l d c b 0) (fun q => by simp only [spec_AreFree.l2]; rw [if_pos hbc]) ?_
            have hT3 : foldT (allT fun a => nc l a b c d) (fun _ r => Ev (fun q => spec_AreFree.l2 q l d c (b + 1)) r) (ints 0 b.toNat) () r := by rw [allT_fold]; exact hT
            refine rangeLoop (σ := Unit) (l := fun q _ j => spec_AreFree.l3 q l d c b j) b (T := allT _) (allT_mono _) 0 ?_ ?_ b.toNat 0 (by omega) (by omega) () r hT3
            · intro _ a ha0 hab r hT
              refine Ev.step (f := fun q => if sideL l a b c d = 0 then some false else spec_AreFree.l3 q l d c b (a + 1)) (fun q => ?_) ?_
              · simp only [spec_AreFree.l3]
                rw [if_pos hab, if_pos ha0, if_pos (by omega), if_pos hb0, if_pos (by omega), if_pos hc0, if_pos (by omega), if_pos hd0, if_pos hdn, side_specL l a b c d (hF a ha0 (by omega)) (hF b hb0 (by omega)) (hF c hc0 (by omega)) (hF d hd0 hdn), w64 (by omega) (by omega)]; rfl
              by_cases hz : sideL l a b c d = 0
              · have : r = false := by simpa [allT, nc, hz] using hT
                subst this; exact Ev.iteT hz (Ev.now _)
              · refine Ev.iteF hz ?_; simpa [allT, nc, hz] using hT
            · intro _ r hC
              refine Ev.step (f := fun q => spec_AreFree.l2 q l d c (b + 1)) (fun q => ?_) hC
              simp only [spec_AreFree.l3]
              rw [if_neg (by omega), w64 (by omega) (by omega)]
          · intro _ r hC
            refine Ev.step (f := fun q => spec_AreFree.l1 q l d (c + 1)) (fun q => ?_) hC
            simp only [spec_AreFree.l2]
            rw [if_neg (by omega), w64 (by omega) (by omega)]
        · intro _ r hC
          refine Ev.step (f := fun q => spec_AreFree.l0 q l (d + 1)) (fun q => ?_) hC
          simp only [spec_AreFree.l1]
          rw [if_neg (by omega), w64 (by omega) (by omega)]
      · intro _ r hC
        subst hC
        refine Ev.step (f := fun _ => some true) (fun q => ?_) (Ev.now true)
        simp only [spec_AreFree.l0]
        rw [if_neg (by omega)]
    · rw [decide_eq_true (show (l.length : Int) > 6 by omega), show freeB l = false by simp [freeB, h6]]
      exact stop
theorem quads_small (n : Nat) (h : n ≤ 6) : (quads n).length ≤ 35 := by
  have z : n = 0 ∨ n = 1 ∨ n = 2 ∨ n = 3 ∨ n = 4 ∨ n = 5 ∨ n = 6 := by omega
  rcases z with h | h | h | h | h | h | h <;> rw [h] <;> decide +kernel
theorem impl_AreFree_ev (l : List S25) (hl : l.length ≤ 1099511627776) : Ev (fun k => impl_AreFree.f k l) (freeB l) := by
  have stop : Ev (fun k => impl_AreFree.j0 k l true) false := Ev.step (f := fun _ => some false) (fun k => by simp only [impl_AreFree.j0, if_true]) (Ev.now _)
  simp only [impl_AreFree.f]
  refine Ev.bind (impl_ArePoints_ev l hl) ?_
  cases hp : pointsB l with
  | false => rw [show freeB l = false by simp [freeB, hp]]; exact stop
  | true =>
    simp only [if_true]
    by_cases h6 : l.length ≤ 6
    · rw [decide_eq_false (show ¬ (l.length : Int) > 6 by omega)]
      have hF : ∀ i : Int, 0 ≤ i → i < (l.length : Int) → fits50 l i = true := fun i h0 h1 => points_fit hp h0 h1
      refine Ev.step (f := fun k => (impl_quadsOf.f k (l.length : Int)).bind fun t => impl_AreFree.l0 k l t (t.length : Int) 0) (fun k => by simp only [impl_AreFree.j0, Bool.false_eq_true, if_false]) ?_
      refine Ev.bind (quads_eq l.length (by omega)) ?_
      have e : freeB l = ((quads l.length).map mk4).all fun t => nc l t.f0 t.f1 t.f2 t.f3 := by
        rw [Bool.eq_iff_iff, freeB_iff l hp h6]
        simp only [List.all_eq_true, List.mem_map]
        constructor
        · rintro ha t ⟨⟨i, j, k, p⟩, hm, rfl⟩
          rw [quads_mem] at hm
          simp only [mk4, nc, Bool.not_eq_true', beq_eq_false_iff_ne]
          exact ha i j k p hm.1 hm.2.1 hm.2.2.1 hm.2.2.2.1 hm.2.2.2.2
        · intro h i j k p h0 h1 h2 h3 h4
          have := h _ ⟨(i, j, k, p), by rw [quads_mem]; omega, rfl⟩
          simpa [mk4, nc] using this
      rw [e]
      have hb : (((quads l.length).map mk4).length : Int) ≤ 35 := by
        have := quads_small l.length h6
        rw [List.length_map]; omega
      refine listLoop0 (σ := Unit) (l := fun q _ i => impl_AreFree.l0 q l _ _ i) ((quads l.length).map mk4) z63 (T := allT _) (allT_mono _) (C := fun _ r => r = true) ?_ ?_ () _ (allT_done _ _ _ rfl)
      · intro _ i hi0 hin r hT
        have hm : ((quads l.length).map mk4).getD i.toNat z63 ∈ (quads l.length).map mk4 := getD_mem _ _ _ (by omega)
        generalize hg : ((quads l.length).map mk4).getD i.toNat z63 = t at hm hT
        have hr : rd_T63 ((quads l.length).map mk4) i = t := hg
        obtain ⟨⟨a, b, c, d⟩, hm3, rfl⟩ := List.mem_map.1 hm
        clear hm
        have hm := quads_mem.1 hm3
        refine Ev.step (f := fun q => if sideL l a b c d = 0 then some false else impl_AreFree.l0 q l ((quads l.length).map mk4) (((quads l.length).map mk4).length : Int) (i + 1)) (fun q => ?_) ?_
        · simp only [impl_AreFree.l0, hr, mk4]
          have hlen : i < (((quads l.length).map mk4).length : Int) := hin
          rw [if_pos hlen, if_pos hi0, if_pos (by omega), if_pos (by omega), if_pos (by omega), if_pos (by omega), if_pos (by omega), if_pos (by omega), if_pos (by omega), if_pos (by omega), if_pos (by omega), side_implL l a b c d (hF a (by omega) (by omega)) (hF b (by omega) (by omega)) (hF c (by omega) (by omega)) (hF d (by omega) (by omega)), w64 (by omega) (by omega)]; rfl
        by_cases hz : sideL l a b c d = 0
        · have : r = false := by simpa [allT, nc, mk4, hz] using hT
          subst this; exact Ev.iteT hz (Ev.now _)
        · refine Ev.iteF hz ?_; simpa [allT, nc, mk4, hz] using hT
      · intro _ r hC
        subst hC
        refine Ev.step (f := fun _ => some true) (fun q => ?_) (Ev.now true)
        simp only [impl_AreFree.l0]
        rw [if_neg (by omega)]
    · rw [decide_eq_true (show (l.length : Int) > 6 by omega), show freeB l = false by simp [freeB, h6]]
      exact stop
end Go.Proofs.Ytijgjpfbhbggdaa.Pure

namespace Go.Proofs.Ytijgjpfbhbggdaa.Pure
open Go.RowKit Go.Proofs.Ytijgjpfbhbggdaa.P Go.Proofs.YtijgjpfbhbggdaaW.PrintWords Go.Proofs.YtijgjpfbhbggdaaW.PrintLast Go.Proofs.Ytijgjpfbhbggdaa.Com
set_option linter.unusedSimpArgs false
set_option linter.unusedVariables false

theorem sgn_range (x : Int) : sgn x = 1 ∨ sgn x = 0 ∨ sgn x = -1 := by unfold sgn; split <;> (try split) <;> simp
theorem sideL_range (l : List S25) (i j k p : Int) : sideL l i j k p = 1 ∨ sideL l i j k p = 0 ∨ sideL l i j k p = -1 := by
  unfold sideL sideW
  rcases sgn_range (wrap64 _) with h | h | h <;> rcases sgn_range (areaW _ _ _ _ _ _) with h' | h' | h' <;> rw [h, h'] <;> simp [wrap64]
/-- Does p lie inside the circle of i, j and k? -/
def isIn (l : List S25) (i j k p : Int) : Bool := !(p == i) && (!(p == j) && (!(p == k) && sideL l i j k p == 1))
def stepS (l : List S25) (i j k : Int) (s p : Int) : Int ⊕ Int := .inl (wrap64 (s + if isIn l i j k p = true then 1 else 0))
def stepI (l : List S25) (i j k : Int) (s p : Int) : Int ⊕ Int := .inl (if isIn l i j k p = true then wrap64 (s + 1) else s)
theorem steps_same (l : List S25) (i j k : Int) (L : List Int) : ∀ s : Int, 0 ≤ s → s + L.length ≤ 1000 → foldX (stepS l i j k) id L s = foldX (stepI l i j k) id L s := by
  induction L with
  | nil => intro s _ _; rfl
  | cons p L ih =>
    intro s h0 h1
    simp only [List.length_cons] at h1
    simp only [foldX, stepS, stepI]
    cases isIn l i j k p with
    | true => simp only [if_true]; rw [w64 (by omega) (by omega)]; exact ih _ (by omega) (by omega)
    | false => simp only [Bool.false_eq_true, if_false]; rw [w64 (by omega) (by omega), Int.add_zero]; exact ih _ (by omega) (by omega)
def countIn (l : List S25) (i j k : Int) : Int := foldX (stepI l i j k) id (ints 0 l.length) 0
theorem ints_length (a : Int) (d : Nat) : (ints a d).length = d := by
  induction d generalizing a with
  | zero => rfl
  | succ d ih => simp [ints, ih]
theorem l1Bit_eq (b : Bool) : spec_l1Bit.f b = some (if b = true then 1 else 0) := by unfold spec_l1Bit.f; cases b <;> rfl
theorem l29In_ev (l : List S25) (hn : l.length ≤ 7) (hF : ∀ i : Int, 0 ≤ i → i < (l.length : Int) → fits50 l i = true) (i j k : Int) (hi : 0 ≤ i ∧ i < l.length) (hj : 0 ≤ j ∧ j < l.length) (hk : 0 ≤ k ∧ k < l.length) :
    Ev (fun q => spec_l29In.f q l i j k) (countIn l i j k) := by
  unfold countIn
  rw [← steps_same l i j k _ 0 (by omega) (by rw [ints_length]; omega)]
  simp only [spec_l29In.f]
  refine rangeLoop (σ := Int) (l := fun q s p => spec_l29In.l0 q l i j k s p) (l.length : Int) (stepT_mono (stepS l i j k)) (C := fun s r => r = s) 0 ?_ ?_ l.length 0 (by omega) (by omega) 0 _ (foldX_T _ id (C := fun s r => r = s) (fun _ => rfl) _ 0)
  · intro s p hp0 hpn r hT
    have hT := stepT_inl hT rfl
    refine Ev.step (f := fun q => spec_l29In.l0 q l i j k (wrap64 (s + if isIn l i j k p = true then 1 else 0)) (p + 1)) (fun q => ?_) hT
    simp only [spec_l29In.l0]
    rw [if_pos hpn, w64 (x := p + 1) (by omega) (by omega)]
    by_cases h1 : p = i
    · rw [if_pos h1, l1Bit_eq, show isIn l i j k p = false by simp [isIn, h1]]; rfl
    rw [if_neg h1]
    by_cases h2 : p = j
    · rw [if_pos h2, l1Bit_eq, show isIn l i j k p = false by simp [isIn, h2]]; rfl
    rw [if_neg h2]
    by_cases h3 : p = k
    · rw [if_pos h3, l1Bit_eq, show isIn l i j k p = false by simp [isIn, h3]]; rfl
    rw [if_neg h3, if_pos hi.1, if_pos hi.2, if_pos hj.1, if_pos hj.2, if_pos hk.1, if_pos hk.2, if_pos hp0, side_specL l i j k p (hF i hi.1 hi.2) (hF j hj.1 hj.2) (hF k hk.1 hk.2) (hF p hp0 hpn)]
    simp only [Option.bind_some, l1Bit_eq]
    have e : isIn l i j k p = decide (sideL l i j k p > 0) := by
      simp only [isIn, beq_eq_false_iff_ne.mpr h1, beq_eq_false_iff_ne.mpr h2, beq_eq_false_iff_ne.mpr h3, Bool.not_false, Bool.true_and]
      rcases sideL_range l i j k p with h | h | h <;> rw [h] <;> rfl
    rw [e]
  · intro s r hC
    rw [hC]
    refine Ev.step (f := fun _ => some s) (fun q => ?_) (Ev.now s)
    simp only [spec_l29In.l0]
    rw [if_neg (by omega)]
theorem inCircle_ev (l : List S25) (hn : l.length ≤ 7) (hF : ∀ i : Int, 0 ≤ i → i < (l.length : Int) → fits50 l i = true) (i j k : Int) (hi : 0 ≤ i ∧ i < l.length) (hj : 0 ≤ j ∧ j < l.length) (hk : 0 ≤ k ∧ k < l.length) :
    Ev (fun q => impl_inCircle.f q l i j k) (countIn l i j k) := by
  unfold countIn
  simp only [impl_inCircle.f]
  refine rangeLoop (σ := Int) (l := fun q s p => impl_inCircle.l0 q l s l l.length p i j k) (l.length : Int) (stepT_mono (stepI l i j k)) (C := fun s r => r = s) 0 ?_ ?_ l.length 0 (by omega) (by omega) 0 _ (foldX_T _ id (C := fun s r => r = s) (fun _ => rfl) _ 0)
  · intro s p hp0 hpn r hT
    have hT := stepT_inl hT rfl
    refine Ev.step (f := fun q => impl_inCircle.l0 q l (if isIn l i j k p = true then wrap64 (s + 1) else s) l l.length (p + 1) i j k) (fun q => ?_) hT
    simp only [impl_inCircle.l0]
    rw [if_pos hpn, if_pos hp0, if_pos hpn, w64 (x := p + 1) (by omega) (by omega)]
    by_cases h1 : p = i
    · rw [if_pos h1, show isIn l i j k p = false by simp [isIn, h1]]; rfl
    rw [if_neg h1]
    by_cases h2 : p = j
    · rw [if_pos h2, show isIn l i j k p = false by simp [isIn, h2]]; rfl
    rw [if_neg h2]
    by_cases h3 : p = k
    · rw [if_pos h3, show isIn l i j k p = false by simp [isIn, h3]]; rfl
    rw [if_neg h3, if_pos hi.1, if_pos hi.2, if_pos hj.1, if_pos hj.2, if_pos hk.1, if_pos hk.2, side_implL l i j k p (hF i hi.1 hi.2) (hF j hj.1 hj.2) (hF k hk.1 hk.2) (hF p hp0 hpn)]
    simp only [Option.bind_some]
    have e : isIn l i j k p = (sideL l i j k p == 1) := by
      simp only [isIn, beq_eq_false_iff_ne.mpr h1, beq_eq_false_iff_ne.mpr h2, beq_eq_false_iff_ne.mpr h3, Bool.not_false, Bool.true_and]
    rw [e]
    by_cases hz : sideL l i j k p = 1
    · rw [if_pos hz, if_pos (by simp [hz])]
    · rw [if_neg hz, if_neg (by simp [hz])]
  · intro s r hC
    rw [hC]
    refine Ev.step (f := fun _ => some s) (fun q => ?_) (Ev.now s)
    simp only [impl_inCircle.l0]
    rw [if_neg (by omega)]
end Go.Proofs.Ytijgjpfbhbggdaa.Pure

namespace Go.Proofs.Ytijgjpfbhbggdaa.P
open Go.RowKit Go.Proofs.YtijgjpfbhbggdaaW.PrintWords Go.Proofs.YtijgjpfbhbggdaaW.PrintLast Go.Proofs.YtijgjpfbhbggdaaW.PrintMore
attribute [local go_sem] max2_int min2_int max_two min_two max_three min_three max_four min_four   -- for this text's walks alone
set_option linter.unusedVariables false
set_option linter.unusedSimpArgs false

/-! ### spec_CountInCircles: function 31 -/
mutual
def spec_CountInCircles.l0 : Nat → List (S25) → Int → Int → Option (Int)
 | 0, _, _, _ => none
 | k + 1, x0, x3, x4 => if x4 < (x0.length : Int) then (spec_CountInCircles.l1 k x0 x3 x4 (wrap64 (x4 + 1))) else (some x3)
def spec_CountInCircles.l1 : Nat → List (S25) → Int → Int → Int → Option (Int)
 | 0, _, _, _, _ => none
 | k + 1, x0, x3, x4, x5 => if x5 < (x0.length : Int) then (spec_CountInCircles.l2 k x0 x3 x4 x5 (wrap64 (x5 + 1))) else (spec_CountInCircles.l0 k x0 x3 (wrap64 (x4 + 1)))
def spec_CountInCircles.l2 : Nat → List (S25) → Int → Int → Int → Int → Option (Int)
 | 0, _, _, _, _, _ => none
 | k + 1, x0, x3, x4, x5, x6 => if x6 < (x0.length : Int) then ((spec_l29In.f k x0 x4 x5 x6).bind fun t102 => (spec_CountInCircles.l2 k x0 (wrap64 (x3 + t102)) x4 x5 (wrap64 (x6 + 1)))) else (spec_CountInCircles.l1 k x0 x3 x4 (wrap64 (x5 + 1)))
end
def spec_CountInCircles.f (k : Nat) (l0 : List (S25)) : Option (Int) := (spec_AreFree.f k l0).bind fun t101 => (if t101 = true then (spec_CountInCircles.l0 k l0 0 0) else (some (-1)))
theorem spec_CountInCircles.mono_l : ∀ k, (∀ y0 y1 y2, LeO (spec_CountInCircles.l0 k y0 y1 y2) (spec_CountInCircles.l0 (k + 1) y0 y1 y2)) ∧ (∀ y0 y1 y2 y3, LeO (spec_CountInCircles.l1 k y0 y1 y2 y3) (spec_CountInCircles.l1 (k + 1) y0 y1 y2 y3)) ∧ (∀ y0 y1 y2 y3 y4, LeO (spec_CountInCircles.l2 k y0 y1 y2 y3 y4) (spec_CountInCircles.l2 (k + 1) y0 y1 y2 y3 y4))
 | 0 => ⟨fun _ _ _ r h => by simp [spec_CountInCircles.l0] at h, fun _ _ _ _ r h => by simp [spec_CountInCircles.l1] at h, fun _ _ _ _ _ r h => by simp [spec_CountInCircles.l2] at h⟩
 | k + 1 => by
  obtain ⟨ih0, ih1, ih2⟩ := spec_CountInCircles.mono_l k
  refine ⟨?_, ?_, ?_⟩
  ·intro y0 y1 y2
   unfold spec_CountInCircles.l0
   repeat' first
   | (with_reducible exact ih0 _ _ _)
   | (with_reducible exact ih1 _ _ _ _)
   | (with_reducible exact ih2 _ _ _ _ _)
   | (with_reducible exact spec_AreFree.mono _ _)
   | (with_reducible exact spec_l29In.mono _ _ _ _ _)
   | (with_reducible exact LeO.refl _)
   | (with_reducible exact LeO.none _)
   | (with_reducible refine LeO.ite ?_ ?_)
   | (with_reducible refine LeO.bind ?_ (fun _ => ?_))
   | exact ih0 _ _ _
   | exact ih1 _ _ _ _
   | exact ih2 _ _ _ _ _
   | exact spec_AreFree.mono _ _
   | exact spec_l29In.mono _ _ _ _ _
   | exact LeO.none _
   | refine LeO.ite ?_ ?_
   | refine LeO.bind ?_ (fun _ => ?_)
  ·intro y0 y1 y2 y3
   unfold spec_CountInCircles.l1
   repeat' first
   | (with_reducible exact ih0 _ _ _)
   | (with_reducible exact ih1 _ _ _ _)
   | (with_reducible exact ih2 _ _ _ _ _)
   | (with_reducible exact spec_AreFree.mono _ _)
   | (with_reducible exact spec_l29In.mono _ _ _ _ _)
   | (with_reducible exact LeO.refl _)
   | (with_reducible exact LeO.none _)
   | (with_reducible refine LeO.ite ?_ ?_)
   | (with_reducible refine LeO.bind ?_ (fun _ => ?_))
   | exact ih0 _ _ _
   | exact ih1 _ _ _ _
   | exact ih2 _ _ _ _ _
   | exact spec_AreFree.mono _ _
   | exact spec_l29In.mono _ _ _ _ _
   | exact LeO.none _
   | refine LeO.ite ?_ ?_
   | refine LeO.bind ?_ (fun _ => ?_)
  ·intro y0 y1 y2 y3 y4
   unfold spec_CountInCircles.l2
   repeat' first
   | (with_reducible exact ih0 _ _ _)
   | (with_reducible exact ih1 _ _ _ _)
   | (with_reducible exact ih2 _ _ _ _ _)
   | (with_reducible exact spec_AreFree.mono _ _)
   | (with_reducible exact spec_l29In.mono _ _ _ _ _)
   | (with_reducible exact LeO.refl _)
   | (with_reducible exact LeO.none _)
   | (with_reducible refine LeO.ite ?_ ?_)
   | (with_reducible refine LeO.bind ?_ (fun _ => ?_))
   | exact ih0 _ _ _
   | exact ih1 _ _ _ _
   | exact ih2 _ _ _ _ _
   | exact spec_AreFree.mono _ _
   | exact spec_l29In.mono _ _ _ _ _
   | exact LeO.none _
   | refine LeO.ite ?_ ?_
   | refine LeO.bind ?_ (fun _ => ?_)
theorem spec_CountInCircles.mono : ∀ a0 k, LeO (spec_CountInCircles.f k a0) (spec_CountInCircles.f (k + 1) a0) := by
 intro a0 k
 obtain ⟨ih0, ih1, ih2⟩ := spec_CountInCircles.mono_l k
 unfold spec_CountInCircles.f
 repeat' first
   | (with_reducible exact ih0 _ _ _)
   | (with_reducible exact ih1 _ _ _ _)
   | (with_reducible exact ih2 _ _ _ _ _)
   | (with_reducible exact spec_AreFree.mono _ _)
   | (with_reducible exact spec_l29In.mono _ _ _ _ _)
   | (with_reducible exact LeO.refl _)
   | (with_reducible exact LeO.none _)
   | (with_reducible refine LeO.ite ?_ ?_)
   | (with_reducible refine LeO.bind ?_ (fun _ => ?_))
   | exact ih0 _ _ _
   | exact ih1 _ _ _ _
   | exact ih2 _ _ _ _ _
   | exact spec_AreFree.mono _ _
   | exact spec_l29In.mono _ _ _ _ _
   | exact LeO.none _
   | refine LeO.ite ?_ ?_
   | refine LeO.bind ?_ (fun _ => ?_)
set_option maxHeartbeats 8000000 in
set_option maxRecDepth 100000 in
theorem spec_CountInCircles.calls (k : Nat) (A0 : Option Addr) (c0 : Nat) (l0 : List (S25)) (r : Int) (w : World) (hr0 : Kd.C k25 w A0 l0.length l0) (hc0 : l0.length ≤ c0) (h : spec_CountInCircles.f k l0 = some r) :
  Calls Try.prog 31 #[.slice A0 l0.length c0] w fun e w' => e = .returned (.int .i64 r) ∧ Below w.heap.size w w' := by
 have HR0 := Aside0.mk hr0
 have HC0 := Aside0.mk hc0
 clear hr0 hc0
 have HB := Aside0.mk (Below.refl w.heap.size w)
 have H : ((spec_AreFree.f k l0).bind fun t101 => (if t101 = true then (spec_CountInCircles.l0 k l0 0 0) else (some (-1)))) = some r := h
 clear h
 replace H := Option.bind_eq_some_iff.mp H
 obtain ⟨t101, A20, H⟩ := H
 replace H : (if t101 = true then (spec_CountInCircles.l0 k l0 0 0) else (some (-1))) = some r := H
 have A2 := Aside0.mk A20
 clear A20
 by_cases c3 : t101 = true
 ·subst c3
  have H1 : (spec_CountInCircles.l0 k l0 0 0) = some r := by rw [if_pos rfl] at H; exact H
  clear H
  have H := H1
  clear H1
  have H' := Aside0.mk H
  clear H
  go_enter Try.func31, Try.ntmps31
  go_wp2_with (first | ((with_reducible refine gate_callee (f := 21) rfl ?_); refine goesL_ (some 8) rfl rfl Try.func21 (by kernel_rfl) rfl #[.slice A0 l0.length c0] rfl (by (try simp only [List.map_toArray, List.map_cons, List.map_nil]); first | done | rfl | (simp only [List.length_drop, List.length_take]; rfl)) ?_; (with_reducible refine (spec_AreFree.calls k _ _ l0 true _ ?side1 ?side2 A2.out).mono ?_); (case side1 => repeat (first | exact HR0.out | (with_reducible refine Kd.C_alloc ?_ _) | (with_reducible refine Kd.C_drewN ?_ _) | (with_reducible refine Kd.C_drew ?_))); (case side2 => exact HC0.out); rintro e w4 ⟨rfl, hb⟩; refine ⟨_, rfl, ?_⟩; have n0_ := Aside0.mk (below_step (by repeat (first | (with_reducible first | exact HB.out | apply below_alloc | apply pw_below_drewN | apply below_drew1) | exact HB.out)) hb); clear HB; have HB := n0_; clear n0_; (try clear hb); (try clear hb2); (try clear hk); (try clear hi)))
  go_loopg [3, 4] k (fun kq v3 v4 w' => ∃ (x3_1 : Int) (x4_1 : Int), v3 = .int .i64 x3_1 ∧ v4 = .int .i64 x4_1 ∧ Aside0 (spec_CountInCircles.l0 kq l0 x3_1 x4_1 = some r) ∧ Aside0 (kq ≤ k) ∧ Aside0 (Below w.heap.size w w'))
  case atStart => exact ⟨(0), (0), (by first | rfl | (simp; done) | (simp [*]; done)), (by first | rfl | (simp; done) | (simp [*]; done)), H', ⟨Nat.le_refl _⟩, ⟨by repeat (first | (with_reducible first | exact HB.out | apply below_alloc | apply pw_below_drewN | apply below_drew1) | exact HB.out)⟩⟩
  case round =>
   clear H'
   try clear c2
   try clear p2
   try clear c3
   obtain ⟨x3_1, x4_1, rfl, rfl, HA, HK1, HB⟩ := hrel
   cases gk with
   | zero => exact absurd HA.out (by simp [spec_CountInCircles.l0])
   | succ k1 =>
    have H := HA.out
    clear HA
    simp only [spec_CountInCircles.l0] at H
    by_cases c5 : x4_1 < (l0.length : Int)
    ·rw [if_pos c5] at H
     have c5b0 : decide (x4_1 < (l0.length : Int)) = true := decide_eq_true c5
     clear c5
     have H' := Aside0.mk H
     clear H
     go_wp2
     go_loopg [3, 5] k1 (fun kq v3 v5 w' => ∃ (x3_2 : Int) (x5_2 : Int), v3 = .int .i64 x3_2 ∧ v5 = .int .i64 x5_2 ∧ Aside0 (spec_CountInCircles.l1 kq l0 x3_2 x4_1 x5_2 = some r) ∧ Aside0 (kq ≤ k1) ∧ Aside0 (Below w.heap.size w w'))
     case atStart => exact ⟨(x3_1), (wrap64 (x4_1 + 1)), (by first | rfl | (simp; done) | (simp [*]; done)), (by first | rfl | (simp; done) | (simp [*]; done)), H', ⟨Nat.le_refl _⟩, ⟨by repeat (first | (with_reducible first | exact HB.out | apply below_alloc | apply pw_below_drewN | apply below_drew1) | exact HB.out)⟩⟩
     case round =>
      clear H'
      try clear c2
      try clear p2
      try clear c3
      try clear c5
      try clear c5b0
      try clear p2
      obtain ⟨x3_2, x5_2, rfl, rfl, HA, HK2, HB⟩ := hrel
      cases gk with
      | zero => exact absurd HA.out (by simp [spec_CountInCircles.l1])
      | succ k2 =>
       have H := HA.out
       clear HA
       simp only [spec_CountInCircles.l1] at H
       by_cases c6 : x5_2 < (l0.length : Int)
       ·rw [if_pos c6] at H
        have c6b0 : decide (x5_2 < (l0.length : Int)) = true := decide_eq_true c6
        clear c6
        have H' := Aside0.mk H
        clear H
        go_wp2
        go_loopg [3, 6] k2 (fun kq v3 v6 w' => ∃ (x3_3 : Int) (x6_3 : Int), v3 = .int .i64 x3_3 ∧ v6 = .int .i64 x6_3 ∧ Aside0 (spec_CountInCircles.l2 kq l0 x3_3 x4_1 x5_2 x6_3 = some r) ∧ Aside0 (kq ≤ k2) ∧ Aside0 (Below w.heap.size w w'))
        case atStart => exact ⟨(x3_2), (wrap64 (x5_2 + 1)), (by first | rfl | (simp; done) | (simp [*]; done)), (by first | rfl | (simp; done) | (simp [*]; done)), H', ⟨Nat.le_refl _⟩, ⟨by repeat (first | (with_reducible first | exact HB.out | apply below_alloc | apply pw_below_drewN | apply below_drew1) | exact HB.out)⟩⟩
        case round =>
         clear H'
         try clear c2
         try clear p2
         try clear c3
         try clear c5
         try clear c5b0
         try clear c6
         try clear c6b0
         try clear p6
         try clear p2
         obtain ⟨x3_3, x6_3, rfl, rfl, HA, HK3, HB⟩ := hrel
         cases gk with
         | zero => exact absurd HA.out (by simp [spec_CountInCircles.l2])
         | succ k3 =>
          have H := HA.out
          clear HA
          simp only [spec_CountInCircles.l2] at H
          by_cases c7 : x6_3 < (l0.length : Int)
          ·rw [if_pos c7] at H
           have c7b0 : decide (x6_3 < (l0.length : Int)) = true := decide_eq_true c7
           clear c7
           replace H := Option.bind_eq_some_iff.mp H
           obtain ⟨t102, A80, H⟩ := H
           replace H : (spec_CountInCircles.l2 k3 l0 (wrap64 (x3_3 + t102)) x4_1 x5_2 (wrap64 (x6_3 + 1))) = some r := H
           have A8 := Aside0.mk A80
           clear A80
           have H' := Aside0.mk H
           clear H
           go_wp2_with (first | ((with_reducible refine gate_callee (f := 67) rfl ?_); refine goesL_ (some 37) rfl rfl Try.func67 (by kernel_rfl) rfl #[.slice A0 l0.length c0, .int .i64 x4_1, .int .i64 x5_2, .int .i64 x6_3] rfl (by (try simp only [List.map_toArray, List.map_cons, List.map_nil]); first | done | rfl | (simp only [List.length_drop, List.length_take]; rfl)) ?_; (with_reducible refine (spec_l29In.calls k3 _ _ l0 x4_1 x5_2 x6_3 t102 _ ?side1 ?side2 A8.out).mono ?_); (case side1 => repeat (first | exact (Kd.C_below HR0.out HB.out) | (with_reducible refine Kd.C_alloc ?_ _) | (with_reducible refine Kd.C_drewN ?_ _) | (with_reducible refine Kd.C_drew ?_))); (case side2 => exact HC0.out); rintro e w9 ⟨rfl, hb⟩; refine ⟨_, rfl, ?_⟩; have n0_ := Aside0.mk (below_step (by repeat (first | (with_reducible first | exact HB.out | apply below_alloc | apply pw_below_drewN | apply below_drew1) | exact HB.out)) hb); clear HB; have HB := n0_; clear n0_; (try clear hb); (try clear hb2); (try clear hk); (try clear hi)))
           go_roundg k3
           case measure => have := HK1.out; have := HK2.out; have := HK3.out; omega
           case rel => exact ⟨(wrap64 (x3_3 + t102)), (wrap64 (x6_3 + 1)), (by first | rfl | (simp; done) | (simp [*]; done)), (by first | rfl | (simp; done) | (simp [*]; done)), H', ⟨by have := HK1.out; have := HK2.out; have := HK3.out; omega⟩, ⟨by repeat (first | (with_reducible first | exact HB.out | apply below_alloc | apply pw_below_drewN | apply below_drew1) | exact HB.out)⟩⟩
          ·rw [if_neg c7] at H
           have c7b0 : decide (x6_3 < (l0.length : Int)) = false := decide_eq_false c7
           clear c7
           have H' := Aside0.mk H
           clear H
           go_wp2
           go_roundg k3
           case measure => have := HK1.out; have := HK2.out; have := HK3.out; omega
           case rel => exact ⟨(x3_3), (wrap64 (x5_2 + 1)), (by first | rfl | (simp; done) | (simp [*]; done)), (by first | rfl | (simp; done) | (simp [*]; done)), H', ⟨by have := HK1.out; have := HK2.out; have := HK3.out; omega⟩, ⟨by repeat (first | (with_reducible first | exact HB.out | apply below_alloc | apply pw_below_drewN | apply below_drew1) | exact HB.out)⟩⟩
       ·rw [if_neg c6] at H
        have c6b0 : decide (x5_2 < (l0.length : Int)) = false := decide_eq_false c6
        clear c6
        have H' := Aside0.mk H
        clear H
        go_wp2
        go_roundg k2
        case measure => have := HK1.out; have := HK2.out; omega
        case rel => exact ⟨(x3_2), (wrap64 (x4_1 + 1)), (by first | rfl | (simp; done) | (simp [*]; done)), (by first | rfl | (simp; done) | (simp [*]; done)), H', ⟨by have := HK1.out; have := HK2.out; omega⟩, ⟨by repeat (first | (with_reducible first | exact HB.out | apply below_alloc | apply pw_below_drewN | apply below_drew1) | exact HB.out)⟩⟩
    ·rw [if_neg c5] at H
     have c5b0 : decide (x4_1 < (l0.length : Int)) = false := decide_eq_false c5
     clear c5
     obtain rfl := Option.some.inj H
     go_wp2
     go_ret
     exact ⟨by first | rfl | (simp [errW_none, errW_some] <;> rfl) | (simp [*, errW_none, errW_some] <;> rfl), by repeat (first | (with_reducible first | exact HB.out | apply below_alloc | apply pw_below_drewN | apply below_drew1) | exact HB.out)⟩
 ·replace c3 := Bool.eq_false_iff.mpr c3
  subst c3
  have H1 : (some (-1)) = some r := by rw [if_neg (show ¬ (false = true) by decide)] at H; exact H
  clear H
  have H := H1
  clear H1
  obtain rfl := Option.some.inj H
  go_enter Try.func31, Try.ntmps31
  go_wp2_with (first | ((with_reducible refine gate_callee (f := 21) rfl ?_); refine goesL_ (some 8) rfl rfl Try.func21 (by kernel_rfl) rfl #[.slice A0 l0.length c0] rfl (by (try simp only [List.map_toArray, List.map_cons, List.map_nil]); first | done | rfl | (simp only [List.length_drop, List.length_take]; rfl)) ?_; (with_reducible refine (spec_AreFree.calls k _ _ l0 false _ ?side1 ?side2 A2.out).mono ?_); (case side1 => repeat (first | exact HR0.out | (with_reducible refine Kd.C_alloc ?_ _) | (with_reducible refine Kd.C_drewN ?_ _) | (with_reducible refine Kd.C_drew ?_))); (case side2 => exact HC0.out); rintro e w10 ⟨rfl, hb⟩; refine ⟨_, rfl, ?_⟩; have n0_ := Aside0.mk (below_step (by repeat (first | (with_reducible first | exact HB.out | apply below_alloc | apply pw_below_drewN | apply below_drew1) | exact HB.out)) hb); clear HB; have HB := n0_; clear n0_; (try clear hb); (try clear hb2); (try clear hk); (try clear hi)))
  go_ret
  exact ⟨by first | rfl | (simp [errW_none, errW_some] <;> rfl) | (simp [*, errW_none, errW_some] <;> rfl), by repeat (first | (with_reducible first | exact HB.out | apply below_alloc | apply pw_below_drewN | apply below_drew1) | exact HB.out)⟩

end Go.Proofs.Ytijgjpfbhbggdaa.P

namespace Go.Proofs.Ytijgjpfbhbggdaa.P
open Go.RowKit Go.Proofs.YtijgjpfbhbggdaaW.PrintWords Go.Proofs.YtijgjpfbhbggdaaW.PrintLast Go.Proofs.YtijgjpfbhbggdaaW.PrintMore
attribute [local go_sem] max2_int min2_int max_two min_two max_three min_three max_four min_four   -- for this text's walks alone
set_option linter.unusedVariables false
set_option linter.unusedSimpArgs false

/-! ### impl_CountInCircles: function 32 -/
def impl_CountInCircles.l0 : Nat → List (S25) → Int → List (S65) → Int → Int → Option (Int)
 | 0, _, _, _, _, _ => none
 | k + 1, x0, x3, x11, x12, x13 => if x13 < x12 then (if 0 ≤ x13 then (if x13 < (x11.length : Int) then ((impl_inCircle.f k x0 ((rd_T65 x11 x13).f0) ((rd_T65 x11 x13).f1) ((rd_T65 x11 x13).f2)).bind fun t107 => (impl_CountInCircles.l0 k x0 (wrap64 (x3 + t107)) x11 x12 (wrap64 (x13 + 1)))) else (none)) else (none)) else (some x3)
def impl_CountInCircles.f (k : Nat) (l0 : List (S25)) : Option (Int) := (impl_AreFree.f k l0).bind fun t101 => (if t101 = true then ((impl_triplesOf.f k (l0.length : Int)).bind fun t102 => (impl_CountInCircles.l0 k l0 0 t102 (t102.length : Int) 0)) else (some (-1)))
theorem impl_CountInCircles.mono_l : ∀ k, (∀ y0 y1 y2 y3 y4, LeO (impl_CountInCircles.l0 k y0 y1 y2 y3 y4) (impl_CountInCircles.l0 (k + 1) y0 y1 y2 y3 y4))
 | 0 => fun _ _ _ _ _ r h => by simp [impl_CountInCircles.l0] at h
 | k + 1 => by
  have ih0 := impl_CountInCircles.mono_l k
  ·intro y0 y1 y2 y3 y4
   unfold impl_CountInCircles.l0
   repeat' first
   | (with_reducible exact ih0 _ _ _ _ _)
   | (with_reducible exact impl_AreFree.mono _ _)
   | (with_reducible exact impl_inCircle.mono _ _ _ _ _)
   | (with_reducible exact impl_triplesOf.mono _ _)
   | (with_reducible exact LeO.refl _)
   | (with_reducible exact LeO.none _)
   | (with_reducible refine LeO.ite ?_ ?_)
   | (with_reducible refine LeO.bind ?_ (fun _ => ?_))
   | exact ih0 _ _ _ _ _
   | exact impl_AreFree.mono _ _
   | exact impl_inCircle.mono _ _ _ _ _
   | exact impl_triplesOf.mono _ _
   | exact LeO.none _
   | refine LeO.ite ?_ ?_
   | refine LeO.bind ?_ (fun _ => ?_)
theorem impl_CountInCircles.mono : ∀ a0 k, LeO (impl_CountInCircles.f k a0) (impl_CountInCircles.f (k + 1) a0) := by
 intro a0 k
 have ih0 := impl_CountInCircles.mono_l k
 unfold impl_CountInCircles.f
 repeat' first
   | (with_reducible exact ih0 _ _ _ _ _)
   | (with_reducible exact impl_AreFree.mono _ _)
   | (with_reducible exact impl_inCircle.mono _ _ _ _ _)
   | (with_reducible exact impl_triplesOf.mono _ _)
   | (with_reducible exact LeO.refl _)
   | (with_reducible exact LeO.none _)
   | (with_reducible refine LeO.ite ?_ ?_)
   | (with_reducible refine LeO.bind ?_ (fun _ => ?_))
   | exact ih0 _ _ _ _ _
   | exact impl_AreFree.mono _ _
   | exact impl_inCircle.mono _ _ _ _ _
   | exact impl_triplesOf.mono _ _
   | exact LeO.none _
   | refine LeO.ite ?_ ?_
   | refine LeO.bind ?_ (fun _ => ?_)
set_option maxHeartbeats 8000000 in
set_option maxRecDepth 100000 in
theorem impl_CountInCircles.calls (k : Nat) (A0 : Option Addr) (c0 : Nat) (l0 : List (S25)) (r : Int) (w : World) (hr0 : Kd.C k25 w A0 l0.length l0) (hc0 : l0.length ≤ c0) (h : impl_CountInCircles.f k l0 = some r) :
  Calls Try.prog 32 #[.slice A0 l0.length c0] w fun e w' => e = .returned (.int .i64 r) ∧ Below w.heap.size w w' := by
 have hu65 := Try.underlying65
 have HR0 := Aside0.mk hr0
 have HC0 := Aside0.mk hc0
 clear hr0 hc0
 have HB := Aside0.mk (Below.refl w.heap.size w)
 have H : ((impl_AreFree.f k l0).bind fun t101 => (if t101 = true then ((impl_triplesOf.f k (l0.length : Int)).bind fun t102 => (impl_CountInCircles.l0 k l0 0 t102 (t102.length : Int) 0)) else (some (-1)))) = some r := h
 clear h
 replace H := Option.bind_eq_some_iff.mp H
 obtain ⟨t101, A20, H⟩ := H
 replace H : (if t101 = true then ((impl_triplesOf.f k (l0.length : Int)).bind fun t102 => (impl_CountInCircles.l0 k l0 0 t102 (t102.length : Int) 0)) else (some (-1))) = some r := H
 have A2 := Aside0.mk A20
 clear A20
 by_cases c3 : t101 = true
 ·subst c3
  have H1 : ((impl_triplesOf.f k (l0.length : Int)).bind fun t102 => (impl_CountInCircles.l0 k l0 0 t102 (t102.length : Int) 0)) = some r := by rw [if_pos rfl] at H; exact H
  clear H
  have H := H1
  clear H1
  replace H := Option.bind_eq_some_iff.mp H
  obtain ⟨t102, A40, H⟩ := H
  replace H : (impl_CountInCircles.l0 k l0 0 t102 (t102.length : Int) 0) = some r := H
  have A4 := Aside0.mk A40
  clear A40
  have H' := Aside0.mk H
  clear H
  go_enter Try.func32, Try.ntmps32
  go_wp2_with (first | ((with_reducible refine gate_callee (f := 22) rfl ?_); refine goesL_ (some 7) rfl rfl Try.func22 (by kernel_rfl) rfl #[.slice A0 l0.length c0] rfl (by (try simp only [List.map_toArray, List.map_cons, List.map_nil]); first | done | rfl | (simp only [List.length_drop, List.length_take]; rfl)) ?_; (with_reducible refine (impl_AreFree.calls k _ _ l0 true _ ?side1 ?side2 A2.out).mono ?_); (case side1 => repeat (first | exact HR0.out | (with_reducible refine Kd.C_alloc ?_ _) | (with_reducible refine Kd.C_drewN ?_ _) | (with_reducible refine Kd.C_drew ?_))); (case side2 => exact HC0.out); rintro e w5 ⟨rfl, hb⟩; refine ⟨_, rfl, ?_⟩; have n0_ := Aside0.mk (below_step (by repeat (first | (with_reducible first | exact HB.out | apply below_alloc | apply pw_below_drewN | apply below_drew1) | exact HB.out)) hb); clear HB; have HB := n0_; clear n0_; (try clear hb); (try clear hb2); (try clear hk); (try clear hi)) | ((with_reducible refine gate_callee (f := 62) rfl ?_); refine goesL_ (some 11) rfl rfl Try.func62 (by kernel_rfl) rfl #[.int .i64 (l0.length : Int)] rfl (by (try simp only [List.map_toArray, List.map_cons, List.map_nil]); first | done | rfl | (simp only [List.length_drop, List.length_take]; rfl)) ?_; (with_reducible refine (impl_triplesOf.calls k (l0.length : Int) t102 _ A4.out).mono ?_); rintro e w6 ⟨v103, rfl, ho0, hb⟩; refine ⟨_, rfl, ?_⟩; have n0_ := Aside0.mk (Kd.R_lower ho0 (below_size (by repeat (first | (with_reducible first | exact HB.out | apply below_alloc | apply pw_below_drewN | apply below_drew1) | exact HB.out)))); have n1_ := Aside0.mk (below_step (by repeat (first | (with_reducible first | exact HB.out | apply below_alloc | apply pw_below_drewN | apply below_drew1) | exact HB.out)) hb); clear HB; have HO104 := n0_; have HB := n1_; clear n0_ n1_; (try clear hb); (try clear hb2); (try clear hk); (try clear hi); (try clear ho0); obtain ⟨Ao7, co7, eo7⟩ := Kd.R_slice HO104.out; subst eo7))
  go_loopg [3, 13] k (fun kq v3 v13 w' => ∃ (x3_1 : Int) (x13_1 : Int), v3 = .int .i64 x3_1 ∧ v13 = .int .i64 x13_1 ∧ Aside0 (impl_CountInCircles.l0 kq l0 x3_1 t102 (t102.length : Int) x13_1 = some r) ∧ Aside0 (kq ≤ k) ∧ Aside0 (Kd.R k65 65 w' w.heap.size (fun _ => True) (.slice Ao7 t102.length co7) t102) ∧ Aside0 (Below w.heap.size w w'))
  case atStart => exact ⟨(0), (0), (by first | rfl | (simp; done) | (simp [*]; done)), (by first | rfl | (simp; done) | (simp [*]; done)), H', ⟨Nat.le_refl _⟩, ⟨by (with_reducible repeat (first | apply Kd.R_alloc | apply Kd.R_drewN | apply Kd.R_drew)); exact HO104.out⟩, ⟨by repeat (first | (with_reducible first | exact HB.out | apply below_alloc | apply pw_below_drewN | apply below_drew1) | exact HB.out)⟩⟩
  case round =>
   clear H'
   try clear c2
   try clear p2
   try clear c3
   try clear c6
   obtain ⟨x3_1, x13_1, rfl, rfl, HA, HK1, HO_11, HB⟩ := hrel
   cases gk with
   | zero => exact absurd HA.out (by simp [impl_CountInCircles.l0])
   | succ k1 =>
    have H := HA.out
    clear HA
    simp only [impl_CountInCircles.l0] at H
    by_cases c8 : x13_1 < (t102.length : Int)
    ·rw [if_pos c8] at H
     have c8b0 : decide (x13_1 < (t102.length : Int)) = true := decide_eq_true c8
     clear c8
     by_cases c9 : 0 ≤ x13_1
     ·rw [if_pos c9] at H
      have c9b0 : decide (0 ≤ x13_1) = true := decide_eq_true c9
      clear c9
      by_cases c10 : x13_1 < (t102.length : Int)
      ·rw [if_pos c10] at H
       have c10b0 : decide (x13_1 < (t102.length : Int)) = true := decide_eq_true c10
       clear c10
       replace H := Option.bind_eq_some_iff.mp H
       obtain ⟨t107, A110, H⟩ := H
       replace H : (impl_CountInCircles.l0 k1 l0 (wrap64 (x3_1 + t107)) t102 (t102.length : Int) (wrap64 (x13_1 + 1))) = some r := H
       have A11 := Aside0.mk A110
       clear A110
       have H' := Aside0.mk H
       clear H
       have p105 : 0 ≤ (x13_1 : Int) := of_decide_eq_true (by first | (with_reducible assumption) | assumption)
       have q105 : x13_1 < (t102.length : Int) := of_decide_eq_true (by first | (with_reducible assumption) | assumption)
       obtain ⟨ad105, e105, hx105_0, hx105_1, hx105_2⟩ := at_T65 (Kd.R_reads' HO_11.out).2.2 x13_1 p105 q105
       cases e105
       replace p105 := eq_true p105
       replace q105 := eq_true q105
       go_wp2_with (first | ((with_reducible refine gate_dst (N := 5) rfl ?_); refine box_event ?hg (N := 5) ?hd (cs := #[.int .i64 0, .int .i64 0, .int .i64 0]) (t := 65) ?hr ?_; (case hd => rfl); (case hg => rfl); (case hr => first | (go_simp; done) | (go_simp; rfl)); intro gb106 hg w12 hbox hb; have n0_ := Aside0.mk (Kd.R_below (Kd.R_elderB (by (with_reducible repeat (first | apply Kd.R_alloc | apply Kd.R_drewN | apply Kd.R_drew)); exact HO_11.out) gb106 (Nat.le_of_eq hg.symm)) hb); have n1_ := Aside0.mk (below_step (by repeat (first | (with_reducible first | exact HB.out | apply below_alloc | apply pw_below_drewN | apply below_drew1) | exact HB.out)) hb); have n2_ := Aside0.mk (hbox); have n3_ := Aside0.mk ((by rw [hg]; exact (below_size (by repeat (first | (with_reducible first | exact HB.out | apply below_alloc | apply pw_below_drewN | apply below_drew1) | exact HB.out))) : w.heap.size ≤ gb106)); have n4_ := Aside0.mk ((by rw [hg]; exact (below_size (by repeat (first | (with_reducible first | exact HB.out | apply below_alloc | apply pw_below_drewN | apply below_drew1) | exact HB.out))) : w.heap.size ≤ gb106)); clear HO_11; clear HB; have HO_11 := n0_; have HB := n1_; have BK106 := n2_; have GW106 := n3_; have GE106 := n4_; clear n0_ n1_ n2_ n3_ n4_; clear hb hbox hg; have hcz13_0 : w12.cell? ⟨gb106, 0, none⟩ = some (.int .i64 0) := (blk_cell BK106.out 0).trans rfl; have hcz13_1 : w12.cell? ⟨gb106, 1, none⟩ = some (.int .i64 0) := (blk_cell BK106.out 1).trans rfl; have hcz13_2 : w12.cell? ⟨gb106, 2, none⟩ = some (.int .i64 0) := (blk_cell BK106.out 2).trans rfl; have hfz13_0 := blk_frozen BK106.out 0; have hfz13_1 := blk_frozen BK106.out 1; have hfz13_2 := blk_frozen BK106.out 2) | ((with_reducible refine gate_callee (f := 68) rfl ?_); refine goesL_ (some 20) rfl rfl Try.func68 (by kernel_rfl) rfl #[.slice A0 l0.length c0, .agg #[.int .i64 ((rd_T65 t102 x13_1).f0), .int .i64 ((rd_T65 t102 x13_1).f1), .int .i64 ((rd_T65 t102 x13_1).f2)]] rfl (by (try simp only [List.map_toArray, List.map_cons, List.map_nil]); first | done | rfl | (simp only [List.length_drop, List.length_take]; rfl)) ?_; (with_reducible refine (impl_inCircle.calls k1 _ _ l0 ((rd_T65 t102 x13_1).f0) ((rd_T65 t102 x13_1).f1) ((rd_T65 t102 x13_1).f2) t107 _ ?side1 ?side2 A11.out).mono ?_); (case side1 => exact Kd.C_below HR0.out (by repeat (first | (with_reducible first | exact HB.out | apply below_alloc | apply pw_below_drewN | apply below_drew1 | refine below_set ?_ GE106.out) | exact HB.out))); (case side2 => exact HC0.out); rintro e w14 ⟨rfl, hb⟩; refine ⟨_, rfl, ?_⟩; have n0_ := Aside0.mk (Kd.R_below (by (with_reducible repeat (first | apply Kd.R_alloc | apply Kd.R_drewN | apply Kd.R_drew)); exact (Kd.R_mono (Kd.R_far (p := ⟨gb106, 2, none⟩) (Kd.R_far (p := ⟨gb106, 1, none⟩) (Kd.R_far (p := ⟨gb106, 0, none⟩) (Kd.R_mono HO_11.out (fun k_ hk => (⟨hk, hk.2⟩ : _ ∧ k_ ≠ gb106))) (fun _ hk => hk.2) (.int .i64 ((rd_T65 t102 x13_1).f0))) (fun _ hk => hk.2) (.int .i64 ((rd_T65 t102 x13_1).f1))) (fun _ hk => hk.2) (.int .i64 ((rd_T65 t102 x13_1).f2))) (fun _ h_ => h_.1))) hb); have n1_ := Aside0.mk (blk_below (g := gb106) (o := .cells #[.int .i64 ((rd_T65 t102 x13_1).f0), .int .i64 ((rd_T65 t102 x13_1).f1), .int .i64 ((rd_T65 t102 x13_1).f2)] 65 (0, 0)) (by (with_reducible repeat (first | refine blk_drewN ?_ _ | refine blk_drew ?_ | refine blk_alloc ?_ _)); refine blk_put (cs := #[.int .i64 ((rd_T65 t102 x13_1).f0), .int .i64 ((rd_T65 t102 x13_1).f1), .int .i64 0]) ?_ 2 _ rfl; (with_reducible repeat (first | refine blk_drewN ?_ _ | refine blk_drew ?_ | refine blk_alloc ?_ _)); refine blk_put (cs := #[.int .i64 ((rd_T65 t102 x13_1).f0), .int .i64 0, .int .i64 0]) ?_ 1 _ rfl; (with_reducible repeat (first | refine blk_drewN ?_ _ | refine blk_drew ?_ | refine blk_alloc ?_ _)); refine blk_put (cs := #[.int .i64 0, .int .i64 0, .int .i64 0]) ?_ 0 _ rfl; (with_reducible repeat (first | refine blk_drewN ?_ _ | refine blk_drew ?_ | refine blk_alloc ?_ _)); exact BK106.out) hb); have n2_ := Aside0.mk (below_step (by repeat (first | (with_reducible first | exact HB.out | apply below_alloc | apply pw_below_drewN | apply below_drew1 | refine below_set ?_ GE106.out) | exact HB.out)) hb); clear HO_11; clear BK106; clear HB; have HO_11 := n0_; have BK106 := n1_; have HB := n2_; clear n0_ n1_ n2_; (try clear hb); (try clear hb2); (try clear hk); (try clear hi)))
       go_roundg k1
       case measure => have := HK1.out; omega
       case rel => exact ⟨(wrap64 (x3_1 + t107)), (wrap64 (x13_1 + 1)), (by first | rfl | (simp; done) | (simp [*]; done)), (by first | rfl | (simp; done) | (simp [*]; done)), H', ⟨by have := HK1.out; omega⟩, ⟨by (with_reducible repeat (first | apply Kd.R_alloc | apply Kd.R_drewN | apply Kd.R_drew)); exact Kd.R_mono HO_11.out (fun _ hk => trivial)⟩, ⟨by repeat (first | (with_reducible first | exact HB.out | apply below_alloc | apply pw_below_drewN | apply below_drew1 | refine below_set ?_ GE106.out) | exact HB.out)⟩⟩
      ·rw [if_neg c10] at H
       exact absurd H (by simp)
     ·rw [if_neg c9] at H
      exact absurd H (by simp)
    ·rw [if_neg c8] at H
     have c8b0 : decide (x13_1 < (t102.length : Int)) = false := decide_eq_false c8
     clear c8
     obtain rfl := Option.some.inj H
     go_wp2
     go_ret
     exact ⟨by first | rfl | (simp [errW_none, errW_some] <;> rfl) | (simp [*, errW_none, errW_some] <;> rfl), by repeat (first | (with_reducible first | exact HB.out | apply below_alloc | apply pw_below_drewN | apply below_drew1) | exact HB.out)⟩
 ·replace c3 := Bool.eq_false_iff.mpr c3
  subst c3
  have H1 : (some (-1)) = some r := by rw [if_neg (show ¬ (false = true) by decide)] at H; exact H
  clear H
  have H := H1
  clear H1
  obtain rfl := Option.some.inj H
  go_enter Try.func32, Try.ntmps32
  go_wp2_with (first | ((with_reducible refine gate_callee (f := 22) rfl ?_); refine goesL_ (some 7) rfl rfl Try.func22 (by kernel_rfl) rfl #[.slice A0 l0.length c0] rfl (by (try simp only [List.map_toArray, List.map_cons, List.map_nil]); first | done | rfl | (simp only [List.length_drop, List.length_take]; rfl)) ?_; (with_reducible refine (impl_AreFree.calls k _ _ l0 false _ ?side1 ?side2 A2.out).mono ?_); (case side1 => repeat (first | exact HR0.out | (with_reducible refine Kd.C_alloc ?_ _) | (with_reducible refine Kd.C_drewN ?_ _) | (with_reducible refine Kd.C_drew ?_))); (case side2 => exact HC0.out); rintro e w15 ⟨rfl, hb⟩; refine ⟨_, rfl, ?_⟩; have n0_ := Aside0.mk (below_step (by repeat (first | (with_reducible first | exact HB.out | apply below_alloc | apply pw_below_drewN | apply below_drew1) | exact HB.out)) hb); clear HB; have HB := n0_; clear n0_; (try clear hb); (try clear hb2); (try clear hk); (try clear hi)))
  go_ret
  exact ⟨by first | rfl | (simp [errW_none, errW_some] <;> rfl) | (simp [*, errW_none, errW_some] <;> rfl), by repeat (first | (with_reducible first | exact HB.out | apply below_alloc | apply pw_below_drewN | apply below_drew1) | exact HB.out)⟩

end Go.Proofs.Ytijgjpfbhbggdaa.P

namespace Go.Proofs.Ytijgjpfbhbggdaa.Pure
open Go.RowKit Go.Proofs.Ytijgjpfbhbggdaa.P Go.Proofs.YtijgjpfbhbggdaaW.PrintWords Go.Proofs.YtijgjpfbhbggdaaW.PrintLast Go.Proofs.Ytijgjpfbhbggdaa.Com
set_option linter.unusedSimpArgs false
set_option linter.unusedVariables false

def sumIn (l : List S25) : Int := foldX (σ := Int) (ρ := Int) (fun s t => .inl (wrap64 (s + countIn l t.1 t.2.1 t.2.2))) id (trips l.length) 0
def circlesN (l : List S25) : Int := if freeB l = true then sumIn l else -1
theorem free_points {l : List S25} (h : freeB l = true) : pointsB l = true ∧ l.length ≤ 6 := by
  unfold freeB at h; simp only [Bool.and_eq_true, decide_eq_true_eq] at h; exact h.1
theorem trips_small (n : Nat) (h : n ≤ 7) : (trips n).length ≤ 35 := by
  have z : n = 0 ∨ n = 1 ∨ n = 2 ∨ n = 3 ∨ n = 4 ∨ n = 5 ∨ n = 6 ∨ n = 7 := by omega
  rcases z with h | h | h | h | h | h | h | h <;> rw [h] <;> decide +kernel
theorem spec_Circles_ev (l : List S25) (hl : l.length ≤ 1099511627776) : Ev (fun k => spec_CountInCircles.f k l) (circlesN l) := by
  simp only [spec_CountInCircles.f, circlesN]
  refine Ev.bind (spec_AreFree_ev l hl) ?_
  cases hf : freeB l with
  | false => exact Ev.now _
  | true =>
    simp only [if_true]
    obtain ⟨hp, h6⟩ := free_points hf
    have hF : ∀ i : Int, 0 ≤ i → i < (l.length : Int) → fits50 l i = true := fun i h0 h1 => points_fit hp h0 h1
    unfold sumIn
    refine tripLoop (l0 := fun q s i => spec_CountInCircles.l0 q l s i) (l1 := fun q s i j => spec_CountInCircles.l1 q l s i j) (l2 := fun q s i j k => spec_CountInCircles.l2 q l s i j k) l.length _ id ?_ ?_ ?_ ?_ ?_ ?_ 0
    · intro s i j k h0 h1 h2 h3 r hT
      have hT := stepT_inl hT rfl
      refine Ev.step (f := fun q => (spec_l29In.f q l i j k).bind fun t => spec_CountInCircles.l2 q l (wrap64 (s + t)) i j (k + 1)) (fun q => ?_) (Ev.bind (l29In_ev l (by omega) hF i j k ⟨h0, by omega⟩ ⟨by omega, by omega⟩ ⟨by omega, h3⟩) hT)
      simp only [spec_CountInCircles.l2]
      rw [if_pos h3, w64 (x := k + 1) (by omega) (by omega)]
    · intro s i j h0 h1 h2 r h
      refine Ev.step (f := fun q => spec_CountInCircles.l1 q l s i (j + 1)) (fun q => ?_) h
      simp only [spec_CountInCircles.l2]
      rw [if_neg (by omega), w64 (by omega) (by omega)]
    · intro s i j h0 h1 h2 r h
      refine Ev.step (f := fun q => spec_CountInCircles.l2 q l s i j (j + 1)) (fun q => ?_) h
      simp only [spec_CountInCircles.l1]
      rw [if_pos h2, w64 (by omega) (by omega)]
    · intro s i h0 h1 r h
      refine Ev.step (f := fun q => spec_CountInCircles.l0 q l s (i + 1)) (fun q => ?_) h
      simp only [spec_CountInCircles.l1]
      rw [if_neg (by omega), w64 (by omega) (by omega)]
    · intro s i h0 h1 r h
      refine Ev.step (f := fun q => spec_CountInCircles.l1 q l s i (i + 1)) (fun q => ?_) h
      simp only [spec_CountInCircles.l0]
      rw [if_pos h1, w64 (by omega) (by omega)]
    · intro s
      refine Ev.step (f := fun _ => some s) (fun q => ?_) (Ev.now s)
      simp only [spec_CountInCircles.l0]
      rw [if_neg (by omega)]
theorem impl_Circles_ev (l : List S25) (hl : l.length ≤ 1099511627776) : Ev (fun k => impl_CountInCircles.f k l) (circlesN l) := by
  simp only [impl_CountInCircles.f, circlesN]
  refine Ev.bind (impl_AreFree_ev l hl) ?_
  cases hf : freeB l with
  | false => exact Ev.now _
  | true =>
    simp only [if_true]
    obtain ⟨hp, h6⟩ := free_points hf
    have hF : ∀ i : Int, 0 ≤ i → i < (l.length : Int) → fits50 l i = true := fun i h0 h1 => points_fit hp h0 h1
    refine Ev.bind (triples_eq l.length (by omega)) ?_
    have hb : (((trips l.length).map mk3).length : Int) ≤ 35 := by
      have := trips_small l.length (by omega)
      rw [List.length_map]; omega
    have e : sumIn l = foldX (σ := Int) (ρ := Int) (fun s t => .inl (wrap64 (s + countIn l t.f0 t.f1 t.f2))) id ((trips l.length).map mk3) 0 := by
      rw [foldX_map]; rfl
    rw [e]
    refine foldLoop (l0 := fun q s i => impl_CountInCircles.l0 q l s _ _ i) ((trips l.length).map mk3) z65 _ id ?_ ?_ 0
    · intro s i hi0 hin hm r hT
      have hT := stepT_inl hT rfl
      generalize hg : ((trips l.length).map mk3).getD i.toNat z65 = t at hm hT
      have hr : rd_T65 ((trips l.length).map mk3) i = t := hg
      obtain ⟨⟨a, b, c⟩, hm3, rfl⟩ := List.mem_map.1 hm
      have hm := trips_mem.1 hm3
      refine Ev.step (f := fun q => (impl_inCircle.f q l a b c).bind fun t => impl_CountInCircles.l0 q l (wrap64 (s + t)) ((trips l.length).map mk3) (((trips l.length).map mk3).length : Int) (i + 1)) (fun q => ?_) (Ev.bind (inCircle_ev l (by omega) hF a b c ⟨by omega, by omega⟩ ⟨by omega, by omega⟩ ⟨by omega, by omega⟩) hT)
      simp only [impl_CountInCircles.l0, hr, mk3]
      have hlen : i < (((trips l.length).map mk3).length : Int) := hin
      rw [if_pos hlen, if_pos hi0, if_pos hlen, w64 (x := i + 1) (by omega) (by omega)]
    · intro s
      refine Ev.step (f := fun _ => some s) (fun q => ?_) (Ev.now s)
      simp only [impl_CountInCircles.l0]
      rw [if_neg (by omega)]
end Go.Proofs.Ytijgjpfbhbggdaa.Pure

namespace Go.Proofs.Ytijgjpfbhbggdaa.Pure
open Go.RowKit Go.Proofs.Ytijgjpfbhbggdaa.P Go.Proofs.YtijgjpfbhbggdaaW.PrintWords Go.Proofs.YtijgjpfbhbggdaaW.PrintLast Go.Proofs.Ytijgjpfbhbggdaa.Com
set_option linter.unusedSimpArgs false
set_option linter.unusedVariables false

/-- A triple whose circle has no point inside, as a row. -/
def emptyAt (l : List S25) (t : Int × Int × Int) : Option (List Int) := if countIn l t.1 t.2.1 t.2.2 = 0 then some [t.1, t.2.1, t.2.2] else none
def roundL (l : List S25) : List (List Int) := if freeB l = true then (trips l.length).filterMap (emptyAt l) else []
theorem roundL_mem {l : List S25} {x : List Int} (h : x ∈ roundL l) : l.length ≤ 6 ∧ ∃ i j k, x = [i, j, k] ∧ 0 ≤ i ∧ i < j ∧ j < k ∧ k < (l.length : Int) := by
  unfold roundL at h
  split at h
  · rename_i hf
    obtain ⟨t, ht, hx⟩ := List.mem_filterMap.1 h
    unfold emptyAt at hx
    split at hx
    · obtain ⟨i, j, k⟩ := t
      exact ⟨(free_points hf).2, i, j, k, (Option.some.inj hx).symm, trips_mem.1 ht⟩
    · cases hx
  · cases h
theorem roundL_length (l : List S25) : (roundL l).length ≤ 35 := by
  unfold roundL
  split
  · rename_i hf
    have h6 := (free_points hf).2
    exact Nat.le_trans (List.length_filterMap_le _ _) (trips_small l.length (by omega))
  · simp
theorem spec_Round_ev (l : List S25) (hl : l.length ≤ 1099511627776) : Ev (fun k => spec_RoundTriangles.f k l) (roundL l) := by
  simp only [spec_RoundTriangles.f]
  cases hf : freeB l with
  | false =>
    unfold roundL
    rw [hf, if_neg (by decide)]
    by_cases h0 : 0 < l.length
    · refine Ev.step (f := fun q => (spec_AreFree.f q l).bind fun t => spec_RoundTriangles.j1 q l [] 0 t) (fun q => by simp only [spec_RoundTriangles.l0]; rw [if_pos (by omega)]) ?_
      refine Ev.bind (spec_AreFree_ev l hl) ?_
      rw [hf]
      exact Ev.step (f := fun _ => some ([] : List (List Int))) (fun q => by simp only [spec_RoundTriangles.j1]; rw [if_neg (by decide)]) (Ev.now _)
    · refine Ev.step (f := fun q => spec_RoundTriangles.j1 q l [] 0 false) (fun q => by simp only [spec_RoundTriangles.l0]; rw [if_neg (by omega)]) ?_
      exact Ev.step (f := fun _ => some ([] : List (List Int))) (fun q => by simp only [spec_RoundTriangles.j1]; rw [if_neg (by decide)]) (Ev.now _)
  | true =>
    obtain ⟨hp, h6⟩ := free_points hf
    have hF : ∀ i : Int, 0 ≤ i → i < (l.length : Int) → fits50 l i = true := fun i h0 h1 => points_fit hp h0 h1
    have h35 := trips_small l.length (by omega)
    refine tripLoopT (σ := List (List Int)) (l0 := fun q s i => spec_RoundTriangles.l0 q l s i) (l1 := fun q s i j => spec_RoundTriangles.l1 q l s i j) (l2 := fun q s i j k => spec_RoundTriangles.l2 q l s i j k) l.length (pushT_mono (emptyAt l)) (C := fun s r => r = s) ?_ ?_ ?_ ?_ ?_ ?_ [] _ (pushT_fold (emptyAt l) _ _ [] _ (by simp; omega) ?_)
    · intro s i j k h0 h1 h2 h3 r hT
      refine Ev.step (f := fun q => (spec_l29In.f q l i j k).bind fun t => if t = 0 then (if s.length < 5864062014805 then (spec_RoundTriangles.l2 q l (s ++ [([i, j, k] : List Int)]) i j (k + 1)) else none) else spec_RoundTriangles.l2 q l s i j (k + 1)) (fun q => ?_) (Ev.bind (l29In_ev l (by omega) hF i j k ⟨h0, by omega⟩ ⟨by omega, by omega⟩ ⟨by omega, h3⟩) ?_)
      · simp only [spec_RoundTriangles.l2]
        rw [if_pos h3, w64 (x := k + 1) (by omega) (by omega)]
      by_cases hc : countIn l i j k = 0
      · obtain ⟨hb, h⟩ := pushT_some hT (show emptyAt l (i, j, k) = some [i, j, k] from if_pos hc)
        exact Ev.iteT hc (Ev.iteT (by omega) h)
      · exact Ev.iteF hc (pushT_none hT (show emptyAt l (i, j, k) = none from if_neg hc))
    · intro s i j h0 h1 h2 r h
      refine Ev.step (f := fun q => spec_RoundTriangles.l1 q l s i (j + 1)) (fun q => ?_) h
      simp only [spec_RoundTriangles.l2]
      rw [if_neg (by omega), w64 (by omega) (by omega)]
    · intro s i j h0 h1 h2 r h
      refine Ev.step (f := fun q => spec_RoundTriangles.l2 q l s i j (j + 1)) (fun q => ?_) h
      simp only [spec_RoundTriangles.l1]
      rw [if_pos h2, w64 (by omega) (by omega)]
    · intro s i h0 h1 r h
      refine Ev.step (f := fun q => spec_RoundTriangles.l0 q l s (i + 1)) (fun q => ?_) h
      simp only [spec_RoundTriangles.l1]
      rw [if_neg (by omega), w64 (by omega) (by omega)]
    · intro s i h0 h1 r h
      refine Ev.step (f := fun q => (spec_AreFree.f q l).bind fun t => spec_RoundTriangles.j1 q l s i t) (fun q => by simp only [spec_RoundTriangles.l0]; rw [if_pos h1]) ?_
      refine Ev.bind (spec_AreFree_ev l hl) ?_
      rw [hf]
      refine Ev.step (f := fun q => spec_RoundTriangles.l1 q l s i (i + 1)) (fun q => ?_) h
      simp only [spec_RoundTriangles.j1]
      rw [if_pos trivial, w64 (by omega) (by omega)]
    · rintro s r rfl
      refine Ev.step (f := fun q => spec_RoundTriangles.j1 q l r l.length false) (fun q => by simp only [spec_RoundTriangles.l0]; rw [if_neg (by omega)]) ?_
      exact Ev.step (f := fun _ => some r) (fun q => by simp only [spec_RoundTriangles.j1]; rw [if_neg (by decide)]) (Ev.now _)
    · unfold roundL
      rw [hf, if_pos rfl]; simp
theorem impl_Round_ev (l : List S25) (hl : l.length ≤ 1099511627776) : Ev (fun k => impl_RoundTriangles.f k l) (roundL l) := by
  simp only [impl_RoundTriangles.f]
  refine Ev.bind (impl_AreFree_ev l hl) ?_
  cases hf : freeB l with
  | false =>
    unfold roundL
    rw [hf]
    exact Ev.iteF (by decide) (Ev.now _)
  | true =>
    obtain ⟨hp, h6⟩ := free_points hf
    have hF : ∀ i : Int, 0 ≤ i → i < (l.length : Int) → fits50 l i = true := fun i h0 h1 => points_fit hp h0 h1
    have h35 := trips_small l.length (by omega)
    refine Ev.iteT rfl (Ev.bind (triples_eq l.length (by omega)) ?_)
    have hb : (((trips l.length).map mk3).length : Int) ≤ 35 := by rw [List.length_map]; omega
    refine listLoop0 (σ := List (List Int)) (l := fun q s i => impl_RoundTriangles.l0 q l s _ _ i) ((trips l.length).map mk3) z65 (T := pushT fun t => emptyAt l (t.f0, t.f1, t.f2)) (pushT_mono _) (C := fun s r => r = s) ?_ ?_ [] _ ?_
    · intro s i hi0 hin r hT
      have hm := getD_mem ((trips l.length).map mk3) i.toNat z65 (by omega)
      generalize hg : ((trips l.length).map mk3).getD i.toNat z65 = t at hm hT
      have hr : rd_T65 ((trips l.length).map mk3) i = t := hg
      obtain ⟨⟨a, b, c⟩, hm3, rfl⟩ := List.mem_map.1 hm
      have hm := trips_mem.1 hm3
      refine Ev.step (f := fun q => (impl_inCircle.f q l a b c).bind fun t => if t = 0 then (if s.length < 5864062014805 then impl_RoundTriangles.l0 q l (s ++ [([a, b, c] : List Int)]) ((trips l.length).map mk3) (((trips l.length).map mk3).length : Int) (i + 1) else none) else impl_RoundTriangles.l0 q l s ((trips l.length).map mk3) (((trips l.length).map mk3).length : Int) (i + 1)) (fun q => ?_) (Ev.bind (inCircle_ev l (by omega) hF a b c ⟨by omega, by omega⟩ ⟨by omega, by omega⟩ ⟨by omega, by omega⟩) ?_)
      · simp only [impl_RoundTriangles.l0, hr, mk3]
        have hlen : i < (((trips l.length).map mk3).length : Int) := hin
        rw [if_pos hlen, if_pos hi0, if_pos hlen, w64 (x := i + 1) (by omega) (by omega)]
      by_cases hc : countIn l a b c = 0
      · obtain ⟨hb, h⟩ := pushT_some hT (show emptyAt l (a, b, c) = some [a, b, c] from if_pos hc)
        exact Ev.iteT hc (Ev.iteT (by omega) h)
      · exact Ev.iteF hc (pushT_none hT (show emptyAt l (a, b, c) = none from if_neg hc))
    · rintro s r rfl
      exact Ev.step (f := fun _ => some r) (fun q => by simp only [impl_RoundTriangles.l0]; rw [if_neg (by omega)]) (Ev.now _)
    · refine pushT_fold _ _ _ [] _ (by rw [List.length_map]; simp; omega) ?_
      unfold roundL
      rw [hf, if_pos rfl, List.nil_append, List.filterMap_map]
      rfl
end Go.Proofs.Ytijgjpfbhbggdaa.Pure

namespace Go.Proofs.Ytijgjpfbhbggdaa.P
open Go.RowKit Go.Proofs.YtijgjpfbhbggdaaW.PrintWords Go.Proofs.YtijgjpfbhbggdaaW.PrintLast Go.Proofs.YtijgjpfbhbggdaaW.PrintMore
attribute [local go_sem] max2_int min2_int max_two min_two max_three min_three max_four min_four   -- for this text's walks alone
set_option linter.unusedVariables false
set_option linter.unusedSimpArgs false

/-! ### laws_toIntS: function 43 -/
def laws_toIntS.l0 : Nat → List Int → List Int → Int → Option (List Int)
 | 0, _, _, _ => none
 | k + 1, x0, x3, x4 => if x4 < (x0.length : Int) then (if 0 ≤ x4 then (if x4 < (x3.length : Int) then (laws_toIntS.l0 k x0 (x3.set (x4 : Int).toNat (rd x0 x4)) (wrap64 (x4 + 1))) else (none)) else (none)) else (some x3)
def laws_toIntS.f (k : Nat) (l0 : List Int) : Option (List Int) := if 0 ≤ (l0.length : Int) then (if ((l0.length : Int) : Int).toNat ≤ 35184372088832 then (laws_toIntS.l0 k l0 (List.replicate ((l0.length : Int) : Int).toNat 0) 0) else (none)) else (none)
theorem laws_toIntS.mono_l : ∀ k, (∀ y0 y1 y2, LeO (laws_toIntS.l0 k y0 y1 y2) (laws_toIntS.l0 (k + 1) y0 y1 y2))
 | 0 => fun _ _ _ r h => by simp [laws_toIntS.l0] at h
 | k + 1 => by
  have ih0 := laws_toIntS.mono_l k
  ·intro y0 y1 y2
   unfold laws_toIntS.l0
   repeat' first
   | (with_reducible exact ih0 _ _ _)
   | (with_reducible exact LeO.refl _)
   | (with_reducible exact LeO.none _)
   | (with_reducible refine LeO.ite ?_ ?_)
   | (with_reducible refine LeO.bind ?_ (fun _ => ?_))
   | exact ih0 _ _ _
   | exact LeO.none _
   | refine LeO.ite ?_ ?_
   | refine LeO.bind ?_ (fun _ => ?_)
theorem laws_toIntS.mono : ∀ a0 k, LeO (laws_toIntS.f k a0) (laws_toIntS.f (k + 1) a0) := by
 intro a0 k
 have ih0 := laws_toIntS.mono_l k
 unfold laws_toIntS.f
 repeat' first
   | (with_reducible exact ih0 _ _ _)
   | (with_reducible exact LeO.refl _)
   | (with_reducible exact LeO.none _)
   | (with_reducible refine LeO.ite ?_ ?_)
   | (with_reducible refine LeO.bind ?_ (fun _ => ?_))
   | exact ih0 _ _ _
   | exact LeO.none _
   | refine LeO.ite ?_ ?_
   | refine LeO.bind ?_ (fun _ => ?_)
set_option maxHeartbeats 8000000 in
set_option maxRecDepth 100000 in
theorem laws_toIntS.calls (k : Nat) (A0 : Option Addr) (c0 : Nat) (l0 : List Int) (r : List Int) (w : World) (hr0 : Kd.C (Kd.int .i64) w A0 l0.length l0) (hc0 : l0.length ≤ c0) (h : laws_toIntS.f k l0 = some r) :
  Calls Try.prog 43 #[.slice A0 l0.length c0] w fun e w' => ∃ v0_ : Value, e = .returned (v0_) ∧ Kd.R (Kd.int .i64) 3 w' w.heap.size (fun _ => True) v0_ r ∧ Below w.heap.size w w' := by
 have HR0 := Aside0.mk hr0
 have HC0 := Aside0.mk hc0
 clear hr0 hc0
 have HB := Aside0.mk (Below.refl w.heap.size w)
 have H : (if 0 ≤ (l0.length : Int) then (if ((l0.length : Int) : Int).toNat ≤ 35184372088832 then (laws_toIntS.l0 k l0 (List.replicate ((l0.length : Int) : Int).toNat 0) 0) else (none)) else (none)) = some r := h
 clear h
 by_cases c2 : 0 ≤ (l0.length : Int)
 ·rw [if_pos c2] at H
  have c2b0 := eq_true c2
  have c2b1 : decide (0 ≤ (l0.length : Int)) = true := decide_eq_true c2
  clear c2
  by_cases c3 : ((l0.length : Int) : Int).toNat ≤ 35184372088832
  ·rw [if_pos c3] at H
   have c3b0 := eq_true c3
   have c3b1 : decide (((l0.length : Int) : Int).toNat ≤ 35184372088832) = true := decide_eq_true c3
   clear c3
   obtain ⟨y101, hy101⟩ : ∃ y_ : List Int, y_ = (List.replicate ((l0.length : Int) : Int).toNat 0) := ⟨_, rfl⟩
   replace H : (laws_toIntS.l0 k l0 y101 0) = some r := by first | (rw [hy101]; with_reducible exact H) | (have H2_ := (Option.bind_some _ _).symm.trans H; rw [hy101]; with_reducible exact H2_) | (have H2_ := (Option.bind_some _ _).symm.trans H; with_reducible exact H2_) | with_reducible exact H | (rw [hy101]; exact H) | exact H
   have Ny101 := Aside0.mk hy101
   clear hy101
   have H' := Aside0.mk H
   clear H
   go_enter Try.func43, Try.ntmps43
   go_wp2_with (first | ((with_reducible refine gate_dst (N := 7) rfl ?_); refine Kd.R_make (Kd.int .i64) _ 3 rfl (N := 7) rfl 33 _ _ rfl (l0.length : Int) rfl rfl Try.underlying33 (.int .i64 0) 8 info3 rfl (by decide) (by omega) 0 (ok := fun _ => True) (okp := fun _ => True) rfl (fun _ hk => hk) trivial (of_decide_eq_true (by first | (with_reducible assumption) | assumption)) (Nat.le_trans (Nat.mul_le_mul_right _ (of_decide_eq_true (by first | (with_reducible assumption) | assumption) : (l0.length : Int).toNat ≤ 35184372088832)) (by omega)) (Below.refl _ _) (Nat.le_refl _) ?_; intro v102 w4 ho5 hb hg_ hnew_; clear hg_ hnew_; (first | rw [← Ny101.out] at ho5 | (simp only [Int.reduceToNat] at ho5; rw [← Ny101.out] at ho5)); have n0_ := Aside0.mk (Kd.R_lower ho5 (below_size (by repeat (first | (with_reducible first | exact HB.out | apply below_alloc | apply pw_below_drewN | apply below_drew1) | exact HB.out)))); have n1_ := Aside0.mk (below_step (by repeat (first | (with_reducible first | exact HB.out | apply below_alloc | apply pw_below_drewN | apply below_drew1) | exact HB.out)) hb); clear HB; have HO103 := n0_; have HB := n1_; clear n0_ n1_; clear hb ho5))
   go_loopg [4] k (fun kq v4 w' => ∃ (x3_1 : List Int) (x4_1 : Int), v4 = .int .i64 x4_1 ∧ Aside0 (laws_toIntS.l0 kq l0 x3_1 x4_1 = some r) ∧ Aside0 (kq ≤ k) ∧ Aside0 (Kd.R (Kd.int .i64) 3 w' w.heap.size (fun _ => True) v102 x3_1) ∧ Aside0 (Below w.heap.size w w'))
   case atStart => exact ⟨(y101), (0), (by first | rfl | (simp; done) | (simp [*]; done)), H', ⟨Nat.le_refl _⟩, ⟨by (with_reducible repeat (first | apply Kd.R_alloc | apply Kd.R_drewN | apply Kd.R_drew)); exact HO103.out⟩, ⟨by repeat (first | (with_reducible first | exact HB.out | apply below_alloc | apply pw_below_drewN | apply below_drew1) | exact HB.out)⟩⟩
   case round =>
    clear H'
    try clear c2
    try clear c2b0
    try clear c2b1
    try clear p2
    try clear c3
    try clear c3b0
    try clear c3b1
    try clear c4
    obtain ⟨x3_1, x4_1, rfl, HA, HK1, HO_3, HB⟩ := hrel
    cases gk with
    | zero => exact absurd HA.out (by simp [laws_toIntS.l0])
    | succ k1 =>
     have H := HA.out
     clear HA
     simp only [laws_toIntS.l0] at H
     by_cases c6 : x4_1 < (l0.length : Int)
     ·rw [if_pos c6] at H
      have c6b0 : decide (x4_1 < (l0.length : Int)) = true := decide_eq_true c6
      clear c6
      by_cases c7 : 0 ≤ x4_1
      ·rw [if_pos c7] at H
       have c7b0 : decide (0 ≤ x4_1) = true := decide_eq_true c7
       clear c7
       by_cases c8 : x4_1 < (x3_1.length : Int)
       ·rw [if_pos c8] at H
        have c8b0 : decide (x4_1 < (x3_1.length : Int)) = true := decide_eq_true c8
        clear c8
        obtain ⟨y105, hy105⟩ : ∃ y_ : List Int, y_ = (x3_1.set (x4_1 : Int).toNat (rd l0 x4_1)) := ⟨_, rfl⟩
        replace H : (laws_toIntS.l0 k1 l0 y105 (wrap64 (x4_1 + 1))) = some r := by first | (rw [hy105]; with_reducible exact H) | (have H2_ := (Option.bind_some _ _).symm.trans H; rw [hy105]; with_reducible exact H2_) | (have H2_ := (Option.bind_some _ _).symm.trans H; with_reducible exact H2_) | with_reducible exact H | (rw [hy105]; exact H) | exact H
        have Ny105 := Aside0.mk hy105
        clear hy105
        have H' := Aside0.mk H
        clear H
        have p104 : 0 ≤ (x4_1 : Int) := of_decide_eq_true (by first | (with_reducible assumption) | assumption)
        have q104 : x4_1 < (l0.length : Int) := of_decide_eq_true (by first | (with_reducible assumption) | assumption)
        obtain ⟨ad104, e104, hx104_0⟩ := Kd.at_int HR0.out x4_1 p104 q104
        cases e104
        replace hx104_0 := (HB.out.cell (World.block_lt_of_cell? w _ hx104_0)).trans hx104_0
        replace p104 := eq_true p104
        replace q104 := eq_true q104
        have p9 : 0 ≤ (x4_1 : Int) := of_decide_eq_true (by first | (with_reducible assumption) | assumption)
        have q9 : (x4_1 : Int) < ((x3_1.length : Int) : Int) := of_decide_eq_true (by first | (with_reducible assumption) | assumption)
        obtain ⟨go9, co9, eo9, gb9, gl9, cl9, HG9⟩ := Kd.R_form HO_3.out (by omega)
        (first | cases eo9 | (injection eo9 with ea_ en_ ec_; (first | subst ea_ | (injection ea_ with ea_; subst ea_)); subst ec_; clear en_))
        have GB9 := Aside0.mk gb9
        have GG9 := Aside0.mk HG9
        clear gb9 gl9 HG9
        obtain ⟨hx9_0, hf9_0⟩ := Kd.R_celln 0 HO_3.out (x4_1 : Int) p9 q9
        replace p9 := eq_true p9
        replace q9 := eq_true q9
        have HP10 := Kd.R_putg HO_3.out (x4_1 : Int) (rd l0 x4_1)
        go_wp2_with (first | ((with_reducible refine gate_store (t := 3) (p := 20) rfl ?_); refine store_event (t := 3) (p := 20) (v := ?vo_w11) (w1 := (wr.setCell ⟨go9, (x4_1 : Int).toNat, none⟩ (.int .i64 (rd l0 x4_1)))) ?hg ?ho ?hn ?hr ?_; (case ho => rfl); (case hg => rfl); (case hn => rfl); (case hr => first | (go_simp; done) | (go_simp; rfl)); intro w11 hw; have hg : wr.grownBy w11 (some go9) := (by rw [hw]; exact HP10.2); have hp_ : Kd.R (Kd.int .i64) 3 w11 w.heap.size (fun _ => True) (.slice (some ⟨go9, 0, none⟩) x3_1.length co9) y105 := (by rw [hw, Ny105.out]; exact HP10.1); clear HP10; have n0_ := Aside0.mk (hp_); have n1_ := Aside0.mk ((by rw [hw]; exact below_set (HB.out) GB9.out : Below w.heap.size w w11)); clear HO_3; clear HB; have HO_3 := n0_; have HB := n1_; clear n0_ n1_; clear hg hw hp_))
        go_roundg k1
        case measure => have := HK1.out; omega
        case rel => exact ⟨(y105), (wrap64 (x4_1 + 1)), (by first | rfl | (simp; done) | (simp [*]; done)), H', ⟨by have := HK1.out; omega⟩, ⟨by (with_reducible repeat (first | apply Kd.R_alloc | apply Kd.R_drewN | apply Kd.R_drew)); exact HO_3.out⟩, ⟨by repeat (first | (with_reducible first | exact HB.out | apply below_alloc | apply pw_below_drewN | apply below_drew1) | exact HB.out)⟩⟩
       ·rw [if_neg c8] at H
        exact absurd H (by simp)
      ·rw [if_neg c7] at H
       exact absurd H (by simp)
     ·rw [if_neg c6] at H
      have c6b0 : decide (x4_1 < (l0.length : Int)) = false := decide_eq_false c6
      clear c6
      obtain rfl := Option.some.inj H
      go_wp2
      go_ret
      exact ⟨_, by first | rfl | (simp [errW_none, errW_some] <;> rfl) | (simp [*, errW_none, errW_some] <;> rfl), by (with_reducible repeat (first | apply Kd.R_alloc | apply Kd.R_drewN | apply Kd.R_drew)); exact HO_3.out, by repeat (first | (with_reducible first | exact HB.out | apply below_alloc | apply pw_below_drewN | apply below_drew1) | exact HB.out)⟩
  ·rw [if_neg c3] at H
   exact absurd H (by simp)
 ·rw [if_neg c2] at H
  exact absurd H (by simp)

end Go.Proofs.Ytijgjpfbhbggdaa.P

namespace Go.Proofs.Ytijgjpfbhbggdaa.Pure
open Go.RowKit Go.Proofs.Ytijgjpfbhbggdaa.P Go.Proofs.YtijgjpfbhbggdaaW.PrintWords Go.Proofs.YtijgjpfbhbggdaaW.PrintLast
set_option linter.unusedSimpArgs false
set_option linter.unusedVariables false
open Go.Proofs.Ytijgjpfbhbggdaa.Com
theorem toIntS_l0 (l : List Int) (hm : l.length ≤ 1099511627776) (d : Nat) : ∀ (k : Nat) (i : Int) (out : List Int), 0 ≤ i → i + d = l.length → out.length = l.length → d < k →
    laws_toIntS.l0 k l out i = some (out.take i.toNat ++ l.drop i.toNat) := by
  induction d with
  | zero =>
    intro k i out h0 hi ho hk
    obtain ⟨k, rfl, _⟩ := succ_of_lt hk
    simp only [laws_toIntS.l0]
    rw [if_neg (by omega), List.take_of_length_le (by omega), List.drop_of_length_le (by omega)]; simp
  | succ d ih =>
    intro k i out h0 hi ho hk
    obtain ⟨k, rfl, hk⟩ := succ_of_lt hk
    have hlt : i.toNat < out.length := by omega
    simp only [laws_toIntS.l0]
    rw [if_pos (by omega), if_pos h0, if_pos (by omega), w64 (by omega) (by omega), ih k (i + 1) _ (by omega) (by omega) (by simpa using ho) (by omega)]
    rw [show (i + 1).toNat = i.toNat + 1 from by omega, set_take_succ _ _ _ hlt, drop_cons l i.toNat 0 (by omega)]
    simp [rd]
theorem toIntS_eq (l : List Int) (hm : l.length ≤ 1048576) : Ev (fun k => laws_toIntS.f k l) l := by
  refine ⟨l.length + 1, fun k hk => ?_⟩
  dsimp only
  unfold laws_toIntS.f
  rw [if_pos (by omega), if_pos (by omega), toIntS_l0 l (by omega) l.length k 0 _ (by omega) (by omega) (by simp) (by omega)]
  simp
theorem eqIntS_l0 (a : List Int) (hm : a.length ≤ 1099511627776) (d : Nat) : ∀ (k : Nat) (i : Int), 0 ≤ i → i + d = a.length → d < k → laws_eqIntS.l0 k a a i = some true := by
  induction d with
  | zero =>
    intro k i h0 hi hk
    obtain ⟨k, rfl, _⟩ := succ_of_lt hk
    simp only [laws_eqIntS.l0]
    rw [if_neg (by omega)]
  | succ d ih =>
    intro k i h0 hi hk
    obtain ⟨k, rfl, hk⟩ := succ_of_lt hk
    simp only [laws_eqIntS.l0, if_true]
    rw [if_pos (by omega), if_pos h0, if_pos (by omega), w64 (by omega) (by omega), ih k (i + 1) (by omega) (by omega) (by omega)]
theorem eqIntS_refl (a : List Int) (hm : a.length ≤ 1099511627776) : Ev (fun k => laws_eqIntS.f k a a) true := by
  refine ⟨a.length + 1, fun k hk => ?_⟩
  dsimp only
  unfold laws_eqIntS.f
  rw [if_pos rfl, eqIntS_l0 a hm a.length k 0 (by omega) (by omega) (by omega)]
end Go.Proofs.Ytijgjpfbhbggdaa.Pure

namespace Go.Proofs.Ytijgjpfbhbggdaa.Pure
open Go.RowKit Go.Proofs.Ytijgjpfbhbggdaa.P Go.Proofs.YtijgjpfbhbggdaaW.PrintWords Go.Proofs.YtijgjpfbhbggdaaW.PrintLast
set_option linter.unusedSimpArgs false
set_option linter.unusedVariables false
open Go.Proofs.Ytijgjpfbhbggdaa.Com
def marksInt (x : Int) : Nat → List Int
  | 0 => []
  | d + 1 => x :: marksInt (x + 1) d
theorem marksInt_length (x : Int) (d : Nat) : (marksInt x d).length = d := by
  induction d generalizing x with
  | zero => rfl
  | succ d ih => simp [marksInt, ih]
theorem markInt_l0 (d : Nat) : ∀ (k : Nat) (i x : Int) (l : List Int), l.length ≤ 1099511627776 → 0 ≤ i → i + d = l.length → 0 ≤ x → x + d ≤ 4611686018427387904 → d < k →
    laws_markIntS.l0 k l x i = some (x + d, l.take i.toNat ++ marksInt x d) := by
  induction d with
  | zero =>
    intro k i x l hm h0 hi hx hb hk
    obtain ⟨k, rfl, _⟩ := succ_of_lt hk
    simp only [laws_markIntS.l0]
    rw [if_neg (by omega), List.take_of_length_le (by omega)]; simp [marksInt]
  | succ d ih =>
    intro k i x l hm h0 hi hx hb hk
    obtain ⟨k, rfl, hk⟩ := succ_of_lt hk
    have hlt : i.toNat < l.length := by omega
    simp only [laws_markIntS.l0]
    rw [if_pos (by omega), if_pos h0]
    rw [w64 (by omega) (by omega), w64 (by omega) (by omega), ih k (i + 1) _ _ (by simpa using hm) (by omega) (by simpa using (by omega : i + 1 + (d : Int) = l.length)) (by omega) (by omega) (by omega)]
    rw [show (i + 1).toNat = i.toNat + 1 from by omega, set_take_succ _ _ _ hlt]
    simp only [marksInt, List.append_assoc, List.singleton_append]
    congr 2
    omega
theorem heldInt_l0 (d : Nat) : ∀ (k : Nat) (i x : Int) (l : List Int), l.length ≤ 1099511627776 → 0 ≤ i → i + d = l.length → 0 ≤ x → x + d ≤ 4611686018427387904 → l.drop i.toNat = marksInt x d → d < k →
    laws_heldIntS.l0 k l x i = some (x + d) := by
  induction d with
  | zero =>
    intro k i x l hm h0 hi hx hb hl hk
    obtain ⟨k, rfl, _⟩ := succ_of_lt hk
    simp only [laws_heldIntS.l0]
    rw [if_neg (by omega)]; simp
  | succ d ih =>
    intro k i x l hm h0 hi hx hb hl hk
    obtain ⟨k, rfl, hk⟩ := succ_of_lt hk
    have hlt : i.toNat < l.length := by omega
    rw [drop_cons l i.toNat 0 hlt] at hl
    simp only [marksInt, List.cons.injEq] at hl
    have hr : rd l i = x := hl.1
    simp only [laws_heldIntS.l0]
    rw [if_pos (by omega), if_pos h0, if_pos hr, w64 (by omega) (by omega), w64 (by omega) (by omega), ih k (i + 1) _ l hm (by omega) (by omega) (by omega) (by omega) (by rw [show (i + 1).toNat = i.toNat + 1 from by omega]; exact hl.2) (by omega)]
    congr 1
    omega
theorem markInt_eq (l : List Int) (hm : l.length ≤ 1099511627776) : Ev (fun k => laws_markIntS.f k l 1) (1 + (l.length : Int), marksInt 1 l.length) := by
  refine ⟨l.length + 1, fun k hk => ?_⟩
  dsimp only
  unfold laws_markIntS.f
  rw [markInt_l0 l.length k 0 1 l hm (by omega) (by omega) (by omega) (by omega) (by omega)]; simp
theorem heldInt_eq (n : Nat) (hm : n ≤ 1099511627776) : Ev (fun k => laws_heldIntS.f k (marksInt 1 n) 1) (1 + (n : Int)) := by
  refine ⟨n + 1, fun k hk => ?_⟩
  dsimp only
  unfold laws_heldIntS.f
  rw [heldInt_l0 n k 0 1 _ (by rw [marksInt_length]; exact hm) (by omega) (by rw [marksInt_length]; omega) (by omega) (by omega) (by simp) (by omega)]
end Go.Proofs.Ytijgjpfbhbggdaa.Pure

namespace Go.Proofs.Ytijgjpfbhbggdaa.Pure
open Go.RowKit Go.Proofs.Ytijgjpfbhbggdaa.P Go.Proofs.YtijgjpfbhbggdaaW.PrintWords Go.Proofs.YtijgjpfbhbggdaaW.PrintLast Go.Proofs.Ytijgjpfbhbggdaa.Com
set_option linter.unusedSimpArgs false
set_option linter.unusedVariables false
theorem markIntS_from (l : List Int) (a : Int) (hm : l.length ≤ 1000) (h0 : 0 ≤ a) (h1 : a ≤ 1000000000) : Ev (fun k => laws_markIntS.f k l a) (a + (l.length : Int), marksInt a l.length) := by
  refine ⟨l.length + 1, fun k hk => ?_⟩
  dsimp only
  unfold laws_markIntS.f
  rw [markInt_l0 l.length k 0 a l (by omega) (by omega) (by omega) (by omega) (by omega) (by omega)]; simp
theorem heldIntS_from (n : Nat) (a : Int) (hm : n ≤ 1000) (h0 : 0 ≤ a) (h1 : a ≤ 1000000000) : Ev (fun k => laws_heldIntS.f k (marksInt a n) a) (a + (n : Int)) := by
  refine ⟨n + 1, fun k hk => ?_⟩
  dsimp only
  unfold laws_heldIntS.f
  rw [heldInt_l0 n k 0 a _ (by rw [marksInt_length]; omega) (by omega) (by rw [marksInt_length]; omega) (by omega) (by omega) (by simp) (by omega)]
def total : List (List Int) → Nat
  | [] => 0
  | r :: L => r.length + total L
def marksSS (a : Int) : List (List Int) → List (List Int)
  | [] => []
  | r :: L => marksInt a r.length :: marksSS (a + r.length) L
theorem marksSS_length (a : Int) (L : List (List Int)) : (marksSS a L).length = L.length := by
  induction L generalizing a with
  | nil => rfl
  | cons r L ih => simp [marksSS, ih]
theorem total_le {L : List (List Int)} (h : ∀ r ∈ L, r.length ≤ 1000) : total L ≤ 1000 * L.length := by
  induction L with
  | nil => simp [total]
  | cons r L ih =>
    have h1 := h r List.mem_cons_self
    have h2 := ih (fun x hx => h x (List.mem_cons_of_mem _ hx))
    simp only [total, List.length_cons]; omega
theorem eqIntSS_refl (L : List (List Int)) (hL : L.length ≤ 1000) (h : ∀ r ∈ L, r.length ≤ 1000) : Ev (fun k => laws_eqIntSS.f k L L) true := by
  have key : ∀ (d : Nat) (i : Int), 0 ≤ i → i + d = L.length → Ev (fun k => laws_eqIntSS.l0 k L L i) true := by
    intro d
    induction d with
    | zero =>
      intro i h0 hi
      refine Ev.step (f := fun _ => some true) (fun k => ?_) (Ev.now true)
      simp only [laws_eqIntSS.l0]
      rw [if_neg (by omega)]
    | succ d ih =>
      intro i h0 hi
      refine Ev.step (f := fun k => (laws_eqIntS.f k (rd_L8 L i) (rd_L8 L i)).bind fun t => if t = true then laws_eqIntSS.l0 k L L (i + 1) else some false) (fun k => ?_) ?_
      · simp only [laws_eqIntSS.l0]
        rw [if_pos (by omega), if_pos h0, if_pos (by omega), w64 (by omega) (by omega)]
      · exact Ev.bind (eqIntS_refl _ (by have := h _ (getD_mem L i.toNat [] (by omega)); unfold rd_L8; omega)) (Ev.iteT rfl (ih (i + 1) (by omega) (by omega)))
  simp only [laws_eqIntSS.f, if_true]
  exact key L.length 0 (by omega) (by omega)
theorem markIntSS_l0 (rest : List (List Int)) : ∀ (L : List (List Int)) (a i : Int), L.length ≤ 1000 → (∀ r ∈ rest, r.length ≤ 1000) → 0 ≤ i → i + rest.length = L.length → L.drop i.toNat = rest → 0 ≤ a → a + 1000 * rest.length ≤ 1000000000 →
    Ev (fun k => laws_markIntSS.l0 k L a i) (a + (total rest : Int), L.take i.toNat ++ marksSS a rest) := by
  induction rest with
  | nil =>
    intro L a i hL hr h0 hi hd ha hb
    simp only [List.length_nil] at hi
    refine Ev.step (f := fun _ => some (a, L)) (fun k => ?_) ?_
    · simp only [laws_markIntSS.l0]
      rw [if_neg (by omega)]
    · have e : (a, L) = (a + ((total ([] : List (List Int)) : Nat) : Int), L.take i.toNat ++ marksSS a []) := by
        rw [List.take_of_length_le (by omega)]; simp [total, marksSS]
      rw [← e]
      exact Ev.now _
  | cons r rest ih =>
    intro L a i hL hr h0 hi hd ha hb
    simp only [List.length_cons] at hi hb
    have hlt : i.toNat < L.length := by omega
    rw [drop_cons L i.toNat [] hlt] at hd
    injection hd with hd1 hd2
    have hrl := hr r List.mem_cons_self
    have IH := ih (L.set i.toNat (marksInt a r.length)) (a + r.length) (i + 1) (by simpa using hL) (fun x hx => hr x (List.mem_cons_of_mem _ hx)) (by omega) (by simp; omega) (by
      rw [show (i + 1).toNat = i.toNat + 1 from by omega, List.drop_set_of_lt (by omega)]; exact hd2) (by omega) (by omega)
    refine Ev.step (f := fun k => (laws_markIntS.f k (L.getD i.toNat []) a).bind fun t => laws_markIntSS.l0 k (L.set i.toNat t.2) t.1 (i + 1)) (fun k => ?_) ?_
    · simp only [laws_markIntSS.l0]
      rw [if_pos (by omega), if_pos h0, w64 (by omega) (by omega)]
    · rw [hd1]
      refine Ev.bind (markIntS_from r a hrl ha (by omega)) ?_
      have e : (a + ((total (r :: rest) : Nat) : Int), L.take i.toNat ++ marksSS a (r :: rest)) = (a + r.length + ((total rest : Nat) : Int), (L.set i.toNat (marksInt a r.length)).take (i + 1).toNat ++ marksSS (a + r.length) rest) := by
        rw [show (i + 1).toNat = i.toNat + 1 from by omega, set_take_succ _ _ _ hlt]
        simp only [total, marksSS, List.append_assoc, List.singleton_append, Prod.mk.injEq, and_true]
        omega
      rw [e]
      exact IH
theorem heldIntSS_l0 (rest : List (List Int)) : ∀ (L : List (List Int)) (a i : Int), L.length ≤ 1000 → (∀ r ∈ rest, r.length ≤ 1000) → 0 ≤ i → i + rest.length = L.length → L.drop i.toNat = marksSS a rest → 0 ≤ a → a + 1000 * rest.length ≤ 1000000000 →
    Ev (fun k => laws_heldIntSS.l0 k L a i) (a + (total rest : Int)) := by
  induction rest with
  | nil =>
    intro L a i hL hr h0 hi hd ha hb
    simp only [List.length_nil] at hi
    refine Ev.step (f := fun _ => some a) (fun k => ?_) (by simpa [total] using Ev.now a)
    simp only [laws_heldIntSS.l0]
    rw [if_neg (by omega)]
  | cons r rest ih =>
    intro L a i hL hr h0 hi hd ha hb
    simp only [List.length_cons] at hi hb
    have hlt : i.toNat < L.length := by omega
    rw [drop_cons L i.toNat [] hlt] at hd
    simp only [marksSS, List.cons.injEq] at hd
    have hrl := hr r List.mem_cons_self
    have IH := ih L (a + r.length) (i + 1) hL (fun x hx => hr x (List.mem_cons_of_mem _ hx)) (by omega) (by omega) (by rw [show (i + 1).toNat = i.toNat + 1 from by omega]; exact hd.2) (by omega) (by omega)
    refine Ev.step (f := fun k => (laws_heldIntS.f k (rd_L8 L i) a).bind fun t => if t < 0 then some (-1) else laws_heldIntSS.l0 k L t (i + 1)) (fun k => ?_) ?_
    · simp only [laws_heldIntSS.l0]
      rw [if_pos (by omega), if_pos h0, w64 (by omega) (by omega)]
    · rw [show rd_L8 L i = marksInt a r.length from hd.1]
      refine Ev.bind (heldIntS_from r.length a hrl ha (by omega)) (Ev.iteF (by omega) ?_)
      rw [show a + ((total (r :: rest) : Nat) : Int) = a + r.length + ((total rest : Nat) : Int) from by simp only [total]; omega]
      exact IH
theorem markIntSS_eq (L : List (List Int)) (hL : L.length ≤ 1000) (h : ∀ r ∈ L, r.length ≤ 1000) : Ev (fun k => laws_markIntSS.f k L 1) (1 + (total L : Int), marksSS 1 L) := by
  have := markIntSS_l0 L L 1 0 hL h (by omega) (by omega) (by simp) (by omega) (by omega)
  simp only [Int.toNat_zero, List.take_zero, List.nil_append] at this
  exact this
theorem heldIntSS_eq (L : List (List Int)) (hL : L.length ≤ 1000) (h : ∀ r ∈ L, r.length ≤ 1000) : Ev (fun k => laws_heldIntSS.f k (marksSS 1 L) 1) (1 + (total L : Int)) :=
  heldIntSS_l0 L (marksSS 1 L) 1 0 (by rw [marksSS_length]; exact hL) h (by omega) (by rw [marksSS_length]; omega) (by simp) (by omega) (by omega)
end Go.Proofs.Ytijgjpfbhbggdaa.Pure

namespace Go.Proofs.Ytijgjpfbhbggdaa.Pure
open Go.RowKit Go.Proofs.Ytijgjpfbhbggdaa.P Go.Proofs.YtijgjpfbhbggdaaW.PrintWords Go.Proofs.YtijgjpfbhbggdaaW.PrintLast
set_option linter.unusedSimpArgs false
set_option linter.unusedVariables false
open Go.Proofs.Ytijgjpfbhbggdaa.Com
def marksPoint (x : Int) : Nat → List S25
  | 0 => []
  | d + 1 => ⟨x, x + 1⟩ :: marksPoint (x + 2) d
theorem marksPoint_length (x : Int) (d : Nat) : (marksPoint x d).length = d := by
  induction d generalizing x with
  | zero => rfl
  | succ d ih => simp [marksPoint, ih]
theorem markPoint_l0 (d : Nat) : ∀ (k : Nat) (i x : Int) (l : List S25), l.length ≤ 1099511627776 → 0 ≤ i → i + d = l.length → 0 ≤ x → x + 2 * d ≤ 4611686018427387904 → d < k →
    laws_markPointS.l0 k l x i = some (x + 2 * d, l.take i.toNat ++ marksPoint x d) := by
  induction d with
  | zero =>
    intro k i x l hm h0 hi hx hb hk
    obtain ⟨k, rfl, _⟩ := succ_of_lt hk
    simp only [laws_markPointS.l0]
    rw [if_neg (by omega), List.take_of_length_le (by omega)]; simp [marksPoint]
  | succ d ih =>
    intro k i x l hm h0 hi hx hb hk
    obtain ⟨k, rfl, hk⟩ := succ_of_lt hk
    have hlt : i.toNat < l.length := by omega
    simp only [laws_markPointS.l0]
    rw [if_pos (by omega), if_pos h0]
    have w1 : wrap64 (x + 1) = x + 1 := w64 (by omega) (by omega)
    have w2 : wrap64 (x + 1 + 1) = x + 2 := by rw [w64 (by omega) (by omega)]; omega
    have wi : wrap64 (i + 1) = i + 1 := w64 (by omega) (by omega)
    simp only [Option.bind_some, w1, w2, wi, rd_T25, List.set_set, getD_set _ _ _ _ (show i.toNat < (l.set i.toNat _).length from by simpa using hlt), getD_set _ _ _ _ hlt]
    rw [ih k (i + 1) _ _ (by simpa using hm) (by omega) (by simpa using (by omega : i + 1 + (d : Int) = l.length)) (by omega) (by omega) (by omega)]
    rw [show (i + 1).toNat = i.toNat + 1 from by omega, set_take_succ _ _ _ hlt]
    simp only [marksPoint, List.append_assoc, List.singleton_append]
    congr 2
    omega
theorem markPoint_eq (l : List S25) (hm : l.length ≤ 1099511627776) : Ev (fun k => laws_markPointS.f k l 1) (1 + 2 * (l.length : Int), marksPoint 1 l.length) := by
  refine ⟨l.length + 1, fun k hk => ?_⟩
  dsimp only
  unfold laws_markPointS.f
  rw [markPoint_l0 l.length k 0 1 l hm (by omega) (by omega) (by omega) (by omega) (by omega)]; simp
end Go.Proofs.Ytijgjpfbhbggdaa.Pure

namespace Go.Proofs.Ytijgjpfbhbggdaa.Pure
open Go.RowKit Go.Proofs.Ytijgjpfbhbggdaa.P Go.Proofs.YtijgjpfbhbggdaaW.PrintWords Go.Proofs.YtijgjpfbhbggdaaW.PrintLast Go.Proofs.Ytijgjpfbhbggdaa.Com
set_option linter.unusedSimpArgs false
set_option linter.unusedVariables false

theorem FnExactRoundTriangles : laws_FnExactRoundTriangles.Pure := by
  rintro x ⟨hm, _⟩
  apply Ev.rounds
  simp only [laws_FnExactRoundTriangles.f, szPointS_eq x hm, Option.bind_some]
  by_cases h : x.length ≤ 1048576
  · rw [if_pos h]
    refine Ev.iteF (by omega) ?_
    have hl : (x.map convPoint).length ≤ 1048576 := by simpa using h
    obtain ⟨r, h1, h2, hr1, hr2⟩ := (fun l hl => ⟨_, spec_Round_ev l hl, impl_Round_ev l hl, by have := roundL_length l; omega, fun x hx => by obtain ⟨_, i, j, k, rfl, _⟩ := roundL_mem hx; simp⟩ : ∀ (l : List S25), l.length ≤ 1099511627776 → ∃ r, Ev (fun k => spec_RoundTriangles.f k l) r ∧ Ev (fun k => impl_RoundTriangles.f k l) r ∧ r.length ≤ 1000 ∧ ∀ x ∈ r, x.length ≤ 1000) (x.map convPoint) (by omega)
    have ht := total_le hr2
    exact Ev.bind (toPointS_eq x h) (Ev.bind h1 (Ev.bind h2 (Ev.iteT rfl (Ev.bind (eqIntSS_refl r hr1 hr2) (Ev.iteT rfl (Ev.bind (eqPointS_refl _ (by omega)) (Ev.iteT rfl (Ev.bind (markPoint_eq _ (by omega)) (Ev.iteF (by simp only []; omega) (Ev.bind (markIntSS_eq r hr1 hr2) (Ev.bind (heldIntSS_eq r hr1 hr2) (Ev.iteF (by simp only []; omega) (Ev.iteT rfl (Ev.now true))))))))))))))
  · rw [if_neg h]
    exact Ev.iteT (by omega) (Ev.now true)
end Go.Proofs.Ytijgjpfbhbggdaa.Pure

namespace Go.Proofs.Ytijgjpfbhbggdaa.Opn
open Go Go.Deep Go.ChangeShapes Go.WideShapes Go.Proofs.YtijgjpfbhbggdaaW.PrintWords

section
variable {H : Type} (enc : TypeId × Value → H) (P : Program) (w : World) (base : Nat) (spare : Nat → Bool) (held : Bool)
/-- Whatever is read at type t is told by the kind d, and Q holds of it. -/
def Opens {α : Type} (d : Kd α) (t : TypeId) (Q : α → Prop) : Prop :=
  ∀ (fuel : Nat) (cs : List Value) (x : DataW H × List MemPlace), DataW.trod enc P w base spare held fuel t cs = some x → ∃ a, d.K w a cs ∧ Q a
end
section
variable {H : Type} {enc : TypeId × Value → H} {P : Program} {w : World} {base : Nat} {spare : Nat → Bool} {held : Bool}
theorem opens_int {t : TypeId} {k : IntKind} (ht : P.underlying t = some (.int k)) : Opens enc P w base spare held (Kd.int k) t (fun n => (Lit.int k n).wf = true) := fun fuel cs x h => by
  obtain ⟨n, rfl, _, hw⟩ := DataW.trod_int ht h
  exact ⟨n, rfl, hw⟩
theorem opens_bool {t : TypeId} (ht : P.underlying t = some .bool) : Opens enc P w base spare held Kd.bool t (fun _ => True) := fun fuel cs x h => by
  obtain ⟨n, rfl, _⟩ := DataW.trod_bool ht h
  exact ⟨n, rfl, trivial⟩
theorem opens_string {t : TypeId} (ht : P.underlying t = some .string) : Opens enc P w base spare held Kd.string t (fun s => s.size ≤ maxLen) := fun fuel cs x h => by
  obtain ⟨n, rfl, _, hs⟩ := DataW.trod_string ht h
  exact ⟨n, rfl, hs⟩
theorem opens_iso {α β : Type} {d : Kd α} {t : TypeId} {Q : α → Prop} (h : Opens enc P w base spare held d t Q) (f : β → α) (g : α → β) (hfg : ∀ a, f (g a) = a) : Opens enc P w base spare held (Kd.iso d f) t (fun b => Q (f b)) := fun fuel cs x hx => by
  obtain ⟨a, hK, hQ⟩ := h fuel cs x hx
  exact ⟨g a, by show d.K w (f (g a)) cs; rw [hfg]; exact hK, by show Q (f (g a)); rw [hfg]; exact hQ⟩
/-- A list of fields, one behind the other, from the cell o on. -/
def OpensFs (enc : TypeId × Value → H) (P : Program) (w : World) (base : Nat) (spare : Nat → Bool) (held : Bool) {α : Type} (d : Kd α) (o : Nat) (fs : List Field) (Q : α → Prop) : Prop :=
  ∀ (n : Nat) (cs : List Value), cs.length = o + d.sz → (∀ f ∈ fs, ∃ x, DataW.trod enc P w base spare held n f.type ((cs.drop f.offset).take (P.cellsOf f.type)) = some x) → ∃ a, d.K w a (cs.drop o) ∧ Q a
theorem opensFs_one {α : Type} {d : Kd α} {o : Nat} {f : Field} {Q : α → Prop} (h : Opens enc P w base spare held d f.type Q) (ho : f.offset = o) (hc : P.cellsOf f.type = d.sz) : OpensFs enc P w base spare held d o [f] Q := by
  intro n cs hl hf
  obtain ⟨x, hx⟩ := hf f (by simp)
  obtain ⟨a, hK, hQ⟩ := h n _ x hx
  refine ⟨a, ?_, hQ⟩
  rwa [ho, hc, List.take_of_length_le (by rw [List.length_drop]; omega)] at hK
theorem opensFs_cons {α β : Type} {d : Kd α} {e : Kd β} {o : Nat} {f : Field} {fs : List Field} {Q : α → Prop} {R : β → Prop} (h : Opens enc P w base spare held d f.type Q) (hs : OpensFs enc P w base spare held e (o + d.sz) fs R) (ho : f.offset = o) (hc : P.cellsOf f.type = d.sz) :
    OpensFs enc P w base spare held (Kd.pair d e) o (f :: fs) (fun x => Q x.1 ∧ R x.2) := by
  intro n cs hl hf
  have hz : (Kd.pair d e).sz = d.sz + e.sz := rfl
  rw [hz] at hl
  obtain ⟨x, hx⟩ := hf f (by simp)
  obtain ⟨a, hK, hQ⟩ := h n _ x hx
  obtain ⟨b, hK', hR⟩ := hs n cs (by omega) (fun g hg => hf g (by simp [hg]))
  rw [ho, hc] at hK
  refine ⟨(a, b), ⟨(cs.drop o).take d.sz, cs.drop (o + d.sz), ?_, hK, hK'⟩, hQ, hR⟩
  rw [← List.drop_drop, List.take_append_drop]
theorem opens_struct {α : Type} {d : Kd α} {t : TypeId} {fs : Array Field} {Q : α → Prop} (ht : P.underlying t = some (.struct fs)) (hc : P.cellsOf t = d.sz) (h : OpensFs enc P w base spare held d 0 fs.toList Q) : Opens enc P w base spare held d t Q := fun fuel cs x hx => by
  obtain ⟨xs, n, rfl, rfl, hl, hlen, hf⟩ := DataW.trod_struct ht hx
  obtain ⟨a, hK, hQ⟩ := h n cs (by omega) (fun f hm => by
    obtain ⟨i, hi, rfl⟩ := List.mem_iff_getElem.1 hm
    have hi' : i < fs.size := by simpa using hi
    have := hf i fs[i] (by simp [hi'])
    rw [List.getElem?_eq_getElem (by omega)] at this
    exact ⟨_, by simpa using this⟩)
  exact ⟨a, by simpa using hK, hQ⟩
theorem opens_slice {α : Type} {d : Kd α} {t e : TypeId} {Q : α → Prop} (ht : P.underlying t = some (.slice e)) (hc : P.cellsOf e = d.sz) (h : Opens enc P w base spare held d e Q) :
    Opens enc P w base spare held (Kd.slice e d) t (fun xs => xs.length ≤ maxLen ∧ ∀ x ∈ xs, Q x) := fun fuel cs x hx => by
  rcases open_slice ht hx with ⟨rfl, _⟩ | ⟨a, len, cap, m, n, D, Pl, rfl, _, hl, hm, hmm, _, hel⟩
  · exact ⟨[], ⟨none, 0, rfl, Nat.le_refl _, ⟨rfl, by simp, fun h => by simp at h⟩⟩, by simp⟩
  have hlm : len ≤ m := by rw [hmm]; split <;> omega
  have hi : ∀ i : Fin len, ∃ y : α, (∃ cs', w.cells? base (a.add (i.val * P.cellsOf e)) (P.cellsOf e) = some cs' ∧ d.K w y cs') ∧ Q y := fun i => by
    obtain ⟨cs', h1, h2⟩ := hel i.val (by omega)
    obtain ⟨y, hK, hQ⟩ := h _ _ _ h2
    exact ⟨y, ⟨cs', h1, hK⟩, hQ⟩
  let f : Fin len → α := fun i => Classical.choose (hi i)
  have hfs : ∀ i : Fin len, (∃ cs', w.cells? base (a.add (i.val * P.cellsOf e)) (P.cellsOf e) = some cs' ∧ d.K w (f i) cs') ∧ Q (f i) := fun i => Classical.choose_spec (hi i)
  have hlen : (List.ofFn f).length = len := by simp
  have hmax : cap ≤ 9223372036854775807 := by unfold maxLen at hm; omega
  refine ⟨List.ofFn f, ⟨some a, cap, by rw [hlen], by omega, ⟨rfl, by omega, fun _ => ⟨a, rfl, fun j p hj => ?_⟩⟩⟩, by omega, fun y hy => ?_⟩
  · obtain ⟨hj', rfl⟩ := List.getElem?_eq_some_iff.1 hj
    obtain ⟨⟨cs', h1, hK⟩, _⟩ := hfs ⟨j, by omega⟩
    obtain ⟨_, hcl, hcell⟩ := World.cells?_some h1
    refine ⟨cs', by omega, by simpa using hK, fun i u hu => ?_⟩
    have hiu : i < P.cellsOf e := by
      have := (List.getElem?_eq_some_iff.1 hu).1
      omega
    have := hcell i hiu
    rw [Go.Deep.add_add, hu, hc] at this
    exact this
  · obtain ⟨i, rfl⟩ := (List.mem_ofFn).1 hy
    exact (hfs i).2
end
end Go.Proofs.Ytijgjpfbhbggdaa.Opn

namespace Go.Proofs.Ytijgjpfbhbggdaa.fnExactRoundTriangles
open Go.ChangeShapes Go.WideShapes Go.ChangeAt Go.RowKit Go.Proofs.Ytijgjpfbhbggdaa.P Go.Proofs.Ytijgjpfbhbggdaa.Opn Go.Proofs.YtijgjpfbhbggdaaW.PrintWords
open Go.ChangeMaps (open_string shut_string)
set_option linter.unusedVariables false
set_option linter.unusedSimpArgs false
theorem own : ownKnob Try.prog.godebug = none := by kernel_rfl
theorem laidOut : laidOutB Try.prog = true := by kernel_rfl
set_option maxRecDepth 100000 in
theorem lifted (os : Os) (started : os.Started) (H : Type) (enc : TypeId × Value → H) :
  ReturnsInHanded {} Try.checked os 8 .any (Rows.fnExactRoundTrianglesSpec.pre6 enc Try.prog Try.f8 Rows.fnExactRoundTrianglesRow.domain false) (Rows.fnExactRoundTrianglesSpec.post enc Try.prog Try.f8 false true false false) := by
 refine returnsInHanded_of_change_sized (C := Try.checked) own started (by kernel_rfl) Try.func8
  (ChangeSpec.witness6 (enc := enc) (C := Try.checked) false ⟨#[], #[.slice none 0 0], []⟩ 8 (by kernel_rfl) (by kernel_rfl) (by kernel_rfl) (by kernel_rfl)) ?_
 intro W base args ds gs before hval0 hW hcnd hsz0 _
 have hval : ∀ (j : Nat) t v, Try.f8.params[j]? = some t → args[j]? = some v → Value.okWide Try.prog W .any base t v := hval0
 have hW' := hW
 obtain ⟨p, q, hA0, hV, rfl, hfz, hnd⟩ := hW
 have hA : DataW.TrodAll enc Try.prog W 0 (fun _ => true) true Try.f8.params.toList args.toList ds p := hA0
 rw [Try.params8] at hA hval
 obtain ⟨v0, vs0, d0, ds0, p0, q0, hargs, rfl, rfl, h0, r0⟩ := trodAll_cons hA
 obtain ⟨rfl, rfl, rfl⟩ := trodAll_nil r0
 obtain rfl : args = #[v0] := by cases args; simp_all
 obtain ⟨rfl, rfl⟩ := trodVars_none hV
 have k0 := h0
 have lt0 : ∀ x ∈ p0, x.block < W.heap.size := by obtain ⟨m, hm⟩ := k0; exact DataW.trod_lt m _ _ _ hm
 obtain ⟨a0, len0, cap0, rfl⟩ := okWide_slice Try.underlying22 (hval 0 22 v0 rfl rfl)
 obtain ⟨x0, ⟨A0, c0, e0, hc0, hC0⟩, y0⟩ : ∃ xs : List (S56), (Kd.slice 56 k56).K W xs [.slice a0 len0 cap0] ∧ (xs.length ≤ maxLen ∧ ∀ y0 ∈ xs, ((Lit.int .i64 y0.f0).wf = true ∧ (Lit.int .i64 y0.f1).wf = true)) := by obtain ⟨m, hm⟩ := h0; exact (opens_slice Try.underlying22 (by kernel_rfl) (opens_iso (opens_struct Try.underlying56 (by kernel_rfl) (opensFs_cons (opens_int Try.underlying3) (opensFs_one (opens_int Try.underlying3) rfl (by kernel_rfl)) rfl (by kernel_rfl))) (fun x : S56 => (x.f0, x.f1)) (fun a => (⟨a.1, a.2⟩ : S56)) (fun _ => rfl))) m _ _ hm
 simp only [List.cons.injEq, Value.slice.injEq, and_true] at e0
 obtain ⟨rfl, rfl, rfl⟩ := e0
 clear hA0 hval0 hsz0
 obtain ⟨k, hP⟩ := Pure.FnExactRoundTriangles x0 y0
 refine (laws_FnExactRoundTriangles.calls k _ _ x0 true W hC0 hc0 hP).mono ?_
 rintro e W' ⟨he, bel0⟩
 have bel : Below W.heap.size W W' := bel0
 subst he
 exact ⟨_, rfl, _, _, _, [], _, [], hW', trodAll_mk1 (shut_bool Try.underlying4 _), (trodAll_cons_mk (Below.trod laidOut (by kernel_rfl) (of_decide_eq_true (by kernel_rfl)) k0 bel lt0) trodAll_mk0), rfl, bel.frame _, fun h => by cases h⟩
theorem over : Rows.fnExactRoundTrianglesRow.holds Try.pinned (OpenSpec.ofChange Rows.fnExactRoundTrianglesSpec) :=
 OpenClaim.holds_of_wide 8 Try.f8 rfl rfl rfl rfl rfl rfl rfl ⟨rfl, rfl, rfl, rfl, rfl⟩ rfl rfl rfl rfl rfl (by kernel_rfl) Try.func8 (by kernel_rfl)
  (of_decide_eq_true (by kernel_rfl)) (by unfold Func.isWrapper; first | (rw [if_pos (by decide +kernel)]; kernel_rfl) | (rw [if_neg (by decide +kernel)]; exact ⟨rfl, rfl⟩))
  (fun os started H enc _ => lifted os started H enc)
theorem proved : Rows.FnExactRoundTrianglesSaid := over
#print axioms proved
end Go.Proofs.Ytijgjpfbhbggdaa.fnExactRoundTriangles
namespace Go.Proofs.Ytijgjpfbhbggdaa
/-- The row, under a short name, for the claim. -/
theorem fnExactRoundTriangles_holds : Rows.FnExactRoundTrianglesSaid := fnExactRoundTriangles.proved
end Go.Proofs.Ytijgjpfbhbggdaa

