/- For every list of lines and every number the program's PointsOn returns what the reference's returns and leaves the list of lines as it was; no condition. -/
import Derived.Test.YtldcckcljjlglaaZFnExactPointsOn2
import Derived.Test.YtldcckcljjlglaaRows
import Derived.Test.YtldcckcljjlglaaProg
import Derived.Below
import Derived.Deep.Draws
import Derived.Deep.AppendLies
import Derived.Maps.AppendAt
import Derived.OwnWalk
import Derived.Laws.BytesArg
import Derived.Laws.MakeOwn
import Derived.Laws.OwnMore
import Derived.Deep.OwnRows
import Derived.Tactics
import Derived.Lib.ConvBytes
import Derived.Laws.Slices
import Derived.WalkKit
import Derived.KernelRfl
import Derived.RowKit3
import Derived.Deep.LoopGhost
import Derived.Deep.QuietTactic
import Derived.BigQuiet
import Derived.WideLaws
import Derived.Deep.DeepCutAuto
import Derived.Deep.CutBlock
import Derived.Deep.RegionHeld3
import Derived.Laws.Rows
import Derived.Lib.AppendStr
import Derived.ArgAppend
import Derived.Laws.IdiomCopy
import Derived.OrdersHeld
import Derived.Laws.BitsLemmas
import Derived.RowKit
import Derived.Shelf.Abstract
import Derived.Test.YtldcckcljjlglaaWWords
import Derived.Test.YtldcckcljjlglaaWLast
import Derived.Test.YtldcckcljjlglaaWTab
import Derived.Test.YtldcckcljjlglaaWQPut
import Derived.Test.YtldcckcljjlglaaWApart
import Derived.Test.YtldcckcljjlglaaWArr
import Derived.Test.YtldcckcljjlglaaWZeros
import Derived.Test.YtldcckcljjlglaaWFoot
import Derived.Test.YtldcckcljjlglaaWKept
import Derived.Test.YtldcckcljjlglaaWShare
import Derived.Test.YtldcckcljjlglaaWN
import Derived.Test.YtldcckcljjlglaaWEqStruct
import Derived.Test.YtldcckcljjlglaaWRepsOne
import Derived.Test.YtldcckcljjlglaaWNEv
import Derived.Test.YtldcckcljjlglaaWMore
import Derived.DeepKeys4
import Derived.Maps.Ext
import Derived.Maps.RangeWalk
import Derived.Maps.OwnOps
import Derived.OpenShut
import Derived.Shelf.Sort.Plain
import Derived.Shelf.Slices.SearchI
import Derived.Shelf.Slices.In.SortNone
import Derived.Deep.Slices
import Derived.ChangeOld
import Derived.Carry
import Derived.ProofKit
import Derived.ShutString
import Derived.SizedLaws
namespace Go.Proofs.Ytldcckcljjlglaa.Com
open Go.RowKit Go.Proofs.YtldcckcljjlglaaW.PrintWords
variable {σ τ ρ υ : Type}
theorem foldT_flat (T : σ → τ → (σ → ρ → Prop) → ρ → Prop) (L : υ → List τ) (C : σ → ρ → Prop) (J : List υ) : foldT (fun s t C r => foldT T C (L t) s r) C J = foldT T C (J.flatMap L) := by
  induction J with
  | nil => rfl
  | cons t J ih =>
    funext s r
    rw [List.flatMap_cons]
    apply propext
    rw [foldT_append]
    show foldT T (foldT (fun s t C r => foldT T C (L t) s r) C J) (L t) s r ↔ _
    rw [ih]
theorem foldT_mapG (T : σ → τ → (σ → ρ → Prop) → ρ → Prop) (f : υ → τ) (C : σ → ρ → Prop) (L : List υ) : foldT T C (L.map f) = foldT (fun s u C r => T s (f u) C r) C L := by
  induction L with
  | nil => rfl
  | cons t L ih => funext s r; simp only [List.map_cons, foldT, ih]
/-- A round that changes a list, of which there is room. -/
def roomT {α : Type} (g : List α → τ → List α) : List α → τ → (List α → ρ → Prop) → ρ → Prop := fun s t C r => s.length < 1000000 ∧ C (g s t) r
theorem roomT_mono {α : Type} (g : List α → τ → List α) : MonoT (roomT (ρ := ρ) g) := fun _ _ _ _ _ h hT => ⟨hT.1, h _ _ hT.2⟩
theorem roomT_fold {α : Type} (g : List α → τ → List α) (hg : ∀ s t, (g s t).length ≤ s.length + 1) (C : List α → ρ → Prop) (L : List τ) : ∀ s r, s.length + L.length ≤ 1000000 → C (L.foldl g s) r → foldT (roomT g) C L s r := by
  induction L with
  | nil => intro s r _ h; exact h
  | cons t L ih =>
    intro s r hb h
    simp only [List.length_cons] at hb
    have := hg s t
    exact ⟨by omega, ih _ _ (by omega) h⟩
end Go.Proofs.Ytldcckcljjlglaa.Com
namespace Go.Proofs.Ytldcckcljjlglaa.Pure
open Go.RowKit Go.Proofs.Ytldcckcljjlglaa.P Go.Proofs.YtldcckcljjlglaaW.PrintWords Go.Proofs.YtldcckcljjlglaaW.PrintLast Go.Proofs.Ytldcckcljjlglaa.Com
set_option linter.unusedSimpArgs false
set_option linter.unusedVariables false

theorem sameB_comm (a b : LN) : sameB a b = sameB b a := by
  have h1 := areSame_is a b
  have h2 := same_swap a b
  have e : impl_areSame.f a.f0 a.f1 a.f2 b.f0 b.f1 b.f2 = spec_l24Same.f a.f0 a.f1 a.f2 b.f0 b.f1 b.f2 := rfl
  rw [e, h2] at h1
  exact (Option.some.inj h1).symm
theorem inB_abs {n : Int} (h : inB n 20 = true) : n.natAbs ≤ 20 := by
  rw [inB_iff] at h; omega
section
variable {l : List LN} (h : linesB l = true)
include h
theorem line_good {i : Int} (h0 : 0 ≤ i) (hi : i < l.length) : goodK l i = true := by
  rw [linesB_eq] at h
  simp only [Bool.and_eq_true] at h
  exact List.all_eq_true.1 h.1 i (ints_mem_iff.2 (by omega))
theorem line_bad {i : Int} (h0 : 0 ≤ i) (hi : i < l.length) : badLine (ln l i) = false := by
  have := line_good h h0 hi
  unfold goodK at this
  simp only [Bool.and_eq_true, Bool.not_eq_true'] at this
  exact this.1
theorem line_apart {i j : Int} (h0 : 0 ≤ j) (hj : j < i) (hi : i < l.length) : sameB (ln l i) (ln l j) = false := by
  have := line_good h (by omega) hi
  unfold goodK at this
  simp only [Bool.and_eq_true, List.all_eq_true] at this
  have := this.2 j (ints_mem_iff.2 (by omega))
  simpa using this
theorem line_small {i : Int} (h0 : 0 ≤ i) (hi : i < l.length) : smallL (ln l i) ∧ ¬ ((ln l i).f0 = 0 ∧ (ln l i).f1 = 0) := by
  have hb := line_bad h h0 hi
  unfold badLine at hb
  simp only [farB_20, Bool.or_eq_false_iff, Bool.not_eq_false', Bool.and_eq_false_iff, beq_eq_false_iff_ne] at hb
  obtain ⟨h1, h2, h3, h4⟩ := hb
  exact ⟨⟨inB_abs h1, inB_abs h2, inB_abs h3⟩, fun e => by rcases h4 with h4 | h4; exact h4 e.1; exact h4 e.2⟩
theorem line_two {i j : Int} (h0 : 0 ≤ j) (hj : j < i) (hi : i < l.length) : linesB [ln l i, ln l j] = true := by
  have b1 := line_bad h (i := i) (by omega) hi
  have b2 := line_bad h (i := j) h0 (by omega)
  have b3 := line_apart h h0 hj hi
  rw [sameB_comm] at b3
  generalize ln l i = a at *
  generalize ln l j = b at *
  unfold linesB
  have e0 : goodAt [a, b] 0 = true := by
    unfold goodAt
    show (!badLine a && !([] : List LN).any (sameB a)) = true
    rw [b1]; rfl
  have e1 : goodAt [a, b] 1 = true := by
    unfold goodAt
    show (!badLine b && !([a] : List LN).any (sameB b)) = true
    rw [b2]; simp [b3]
  show (((List.range 2).all (goodAt [a, b])) && _) = true
  have e2 : List.range 2 = [0, 1] := rfl
  rw [e2]
  simp [e0, e1]
theorem pt_small {i j : Int} (h0 : 0 ≤ j) (hj : j < i) (hi : i < l.length) (hp : ¬ parQ l (i, j)) : (ptQ l (i, j)).1.natAbs ≤ 800 ∧ (ptQ l (i, j)).2.1.natAbs ≤ 800 ∧ (ptQ l (i, j)).2.2.natAbs ≤ 800 :=
  meetP_small (line_small h (by omega) hi).1 (line_small h h0 (by omega)).1 hp
end
theorem triB_small {p : Tri} (h : p.1.natAbs ≤ 800 ∧ p.2.1.natAbs ≤ 800 ∧ p.2.2.natAbs ≤ 800) : triB p = true := by
  have e : ∀ {x : Int}, x.natAbs ≤ 800 → (Lit.int .i64 x).wf = true := by
    intro x hx
    simp only [Lit.wf, IntKind.min, IntKind.max, IntKind.signed, IntKind.bits, Bool.and_eq_true, decide_eq_true_eq, if_true]
    omega
  unfold triB
  rw [e h.1, e h.2.1, e h.2.2]; rfl
theorem stepM_len (l : List LN) (M : MM) (q : Pr) : (stepM l M q).length ≤ M.length + 1 := by
  unfold stepM putM
  split
  · omega
  · rw [List.length_cons]
    have := List.length_filter_le (fun p : Tri × Int => !(p.1 == ptQ l q)) M
    omega
theorem stepE_len (l : List LN) (E : List Tri) (q : Pr) : (stepE l E q).length ≤ E.length + 1 := by
  unfold stepE
  split
  · omega
  · split
    · omega
    · simp
/-- The program's map. -/
theorem meetings_ev (l : List LN) (h : linesB l = true) : Ev (fun k => impl_meetings.f k l) (mapM_ l) := by
  have h6 := lines_len h
  have hfew := prs_few h6.2
  unfold mapM_
  simp only [impl_meetings.f]
  refine rangeLoop (σ := MM) (ρ := MM) (l := fun q M i => impl_meetings.l0 q l M i) (l.length : Int) (T := fun M i C r => foldT (roomT (stepM l)) C ((ints 0 i.toNat).map fun j => (i, j)) M r)
    (fun s t C D r hh => foldT_mono (roomT_mono _) hh _ s r) (C := fun M r => r = M) 0 ?_ ?_ l.length 0 (by omega) (by omega) [] _ ?_
  · intro M i hi0 hin r hT
    refine Ev.step (f := fun q => impl_meetings.l1 q l M i 0) (fun q => by simp only [impl_meetings.l0]; rw [if_pos hin]) ?_
    rw [foldT_mapG] at hT
    refine rangeLoop (σ := MM) (ρ := MM) (l := fun q M j => impl_meetings.l1 q l M i j) i (T := fun M j C r => roomT (stepM l) M (i, j) C r) (fun s t C D r hh => roomT_mono _ s _ C D r hh) 0 ?_ ?_ i.toNat 0 (by omega) (by omega) M r hT
    · rintro M j hj0 hji r ⟨hroom, hT⟩
      have hs1 := line_small h hi0 hin
      have hs2 := line_small h (i := j) hj0 (by omega)
      have hev := meetImpl_ev hs1.1 hs2.1 (line_two h hj0 hji hin)
      refine Ev.step (f := fun q => (impl_MeetLines.f q (ln l i).f0 (ln l i).f1 (ln l i).f2 (ln l j).f0 (ln l j).f1 (ln l j).f2).bind fun t => if t.2.2.2 = true then (if M.length < 1000000 ∧ triB (t.1, t.2.1, t.2.2.1) = true then impl_meetings.l1 q l (putM M (t.1, t.2.1, t.2.2.1) (orI (orI (getM M (t.1, t.2.1, t.2.2.1)) (twoI i)) (twoI j))) i (j + 1) else none) else impl_meetings.l1 q l M i (j + 1)) (fun q => ?_) ?_
      · simp only [impl_meetings.l1]
        rw [if_pos hji, w64 (x := j + 1) (by omega) (by omega)]
        rfl
      · refine Ev.bind hev ?_
        by_cases hp : parQ l (i, j)
        · have hp' : rawD (ln l i) (ln l j) = 0 := hp
          simp only [if_pos hp', Bool.false_eq_true, if_false]
          unfold stepM at hT
          rw [if_pos hp] at hT
          exact hT
        · have hp' : ¬ rawD (ln l i) (ln l j) = 0 := hp
          have ht := triB_small (pt_small h hj0 hji hin hp)
          have hpt : ptQ l (i, j) = meetP (ln l i) (ln l j) := rfl
          rw [hpt] at ht
          simp only [if_neg hp', if_true]
          unfold stepM at hT
          rw [if_neg hp] at hT
          refine Ev.iteT ⟨hroom, ht⟩ ?_
          exact hT
    · intro M r hC
      refine Ev.step (f := fun q => impl_meetings.l0 q l M (i + 1)) (fun q => ?_) hC
      simp only [impl_meetings.l1]
      rw [if_neg (by omega), w64 (by omega) (by omega)]
  · intro M r hC
    rw [show r = M from hC]
    exact Ev.step (f := fun _ => some M) (fun q => by simp only [impl_meetings.l0]; rw [if_neg (by omega)]) (Ev.now _)
  · rw [foldT_flat]
    refine roomT_fold (stepM l) (stepM_len l) _ _ [] _ ?_ rfl
    have : ((ints 0 l.length).flatMap fun i => (ints 0 i.toNat).map fun j => (i, j)).length ≤ 15 := hfew
    simp only [List.length_nil]
    omega
/-! #### the reference's list -/
/-- Is the point on the line, as Go reckons it? -/
def onW (a : LN) (p : Tri) : Bool := (wrap64 (wrap64 (a.f0 * p.1) + wrap64 (a.f1 * p.2.1))) == (wrap64 (a.f2 * p.2.2))
theorem onW_eq {a : LN} {p : Tri} (ha : smallL a) (hp : p.1.natAbs ≤ 800 ∧ p.2.1.natAbs ≤ 800 ∧ p.2.2.natAbs ≤ 800) : onW a p = true ↔ onL a p := by
  have e : ∀ {x y : Int}, x.natAbs ≤ 20 → y.natAbs ≤ 800 → (x * y).natAbs ≤ 16000 := by
    intro x y hx hy
    have : (x * y).natAbs ≤ 20 * 800 := abs_mul_le hx hy
    omega
  have h1 := e ha.1 hp.1
  have h2 := e ha.2.1 hp.2.1
  have h3 := e ha.2.2 hp.2.2
  unfold onW onL
  rw [wrap_abs (a.f0 * p.1) (by omega), wrap_abs (a.f1 * p.2.1) (by omega), wrap_abs (a.f2 * p.2.2) (by omega), wrap_abs _ (by omega), beq_iff_eq]
def bitOn (l : List LN) (p : Tri) (i : Int) : Int := if onW (ln l i) p = true then 1 else 0
def cntW (l : List LN) (p : Tri) : Int := (ints 0 l.length).foldl (fun s i => wrap64 (s + bitOn l p i)) 0
def entE (l : List LN) (p : Tri) : List Int := [p.1, p.2.1, p.2.2, cntW l p]
theorem bit_is (b : Bool) : spec_l1Bit.f b = some (if b = true then 1 else 0) := by unfold spec_l1Bit.f; cases b <;> rfl
theorem points_ev (l : List LN) (h : linesB l = true) : Ev (fun k => spec_l24Points.f k l) ((ptsE l).map (entE l)) := by
  have h6 := lines_len h
  have hfew := prs_few h6.2
  unfold ptsE
  simp only [spec_l24Points.f]
  refine rangeLoop (σ := List Tri) (ρ := List (List Int)) (l := fun q E i => spec_l24Points.l0 q l (E.map (entE l)) i) (l.length : Int) (T := fun E i C r => foldT (roomT (stepE l)) C ((ints 0 i.toNat).map fun j => (i, j)) E r)
    (fun s t C D r hh => foldT_mono (roomT_mono _) hh _ s r) (C := fun E r => r = E.map (entE l)) 0 ?_ ?_ l.length 0 (by omega) (by omega) [] _ ?_
  · intro E i hi0 hin r hT
    refine Ev.step (f := fun q => spec_l24Points.l1 q l (E.map (entE l)) i 0) (fun q => by simp only [spec_l24Points.l0]; rw [if_pos hin]) ?_
    rw [foldT_mapG] at hT
    refine rangeLoop (σ := List Tri) (ρ := List (List Int)) (l := fun q E j => spec_l24Points.l1 q l (E.map (entE l)) i j) i (T := fun E j C r => roomT (stepE l) E (i, j) C r) (fun s t C D r hh => roomT_mono _ s _ C D r hh) 0 ?_ ?_ i.toNat 0 (by omega) (by omega) E r hT
    · rintro E j hj0 hji r ⟨hroom, hT⟩
      have hs1 := line_small h hi0 hin
      have hs2 := line_small h (i := j) hj0 (by omega)
      have epar : spec_l24Parallel.f (ln l i).f0 (ln l i).f1 (ln l i).f2 (ln l j).f0 (ln l j).f1 (ln l j).f2 = some (decide (rawD (ln l i) (ln l j) = 0)) := by unfold spec_l24Parallel.f; rw [par_eq hs1.1 hs2.1]
      refine Ev.step (f := fun q => if decide (rawD (ln l i) (ln l j) = 0) = true then spec_l24Points.l1 q l (E.map (entE l)) i (j + 1) else (spec_l24Meet.f q (ln l i).f0 (ln l i).f1 (ln l i).f2 (ln l j).f0 (ln l j).f1 (ln l j).f2).bind fun t => spec_l24Points.l2 q l (E.map (entE l)) i j t.1 t.2.1 t.2.2 false 0) (fun q => ?_) ?_
      · simp only [spec_l24Points.l1]
        rw [if_pos hji, if_pos hi0, if_pos hin, if_pos hj0, if_pos (by omega), epar, w64 (by omega) (by omega)]
        rfl
      by_cases hp : parQ l (i, j)
      · have hp' : rawD (ln l i) (ln l j) = 0 := hp
        refine Ev.iteT (by simpa using hp') ?_
        unfold stepE at hT
        rw [if_pos hp] at hT
        exact hT
      · have hp' : ¬ rawD (ln l i) (ln l j) = 0 := hp
        refine Ev.iteF (by simpa using hp') (Ev.bind (meetSpec_ev hs1.1 hs2.1 hp') ?_)
        have hps := pt_small h hj0 hji hin hp
        have hpt : ptQ l (i, j) = meetP (ln l i) (ln l j) := rfl
        unfold stepE at hT
        rw [if_neg hp, hpt] at hT
        rw [hpt] at hps
        generalize meetP (ln l i) (ln l j) = p at hT hps
        -- behind the search
        have hnew : ∀ r, Ev (fun q => spec_l24Points.l1 q l (E.map (entE l) ++ [entE l p]) i (j + 1)) r → Ev (fun q => spec_l24Points.l3 q l (E.map (entE l)) i j p.1 p.2.1 p.2.2 0 0) r := by
          intro r hr
          refine rangeLoop (σ := Int) (ρ := List (List Int)) (l := fun q s x => spec_l24Points.l3 q l (E.map (entE l)) i j p.1 p.2.1 p.2.2 s x) (l.length : Int) (T := Com.stepT fun s x => .inl (wrap64 (s + bitOn l p x))) (stepT_mono _) (C := fun s r => s = cntW l p ∧ Ev (fun q => spec_l24Points.l1 q l (E.map (entE l) ++ [entE l p]) i (j + 1)) r) 0 ?_ ?_ l.length 0 (by omega) (by omega) 0 r ((foldT_foldl _ _ _ 0 r).2 ⟨rfl, hr⟩)
          · intro s x hx0 hxn r' hT
            have hT := stepT_inl hT rfl
            refine Ev.step (f := fun q => spec_l24Points.l3 q l (E.map (entE l)) i j p.1 p.2.1 p.2.2 (wrap64 (s + bitOn l p x)) (x + 1)) (fun q => ?_) hT
            simp only [spec_l24Points.l3]
            rw [if_pos hxn, if_pos hx0, bit_is, w64 (x := x + 1) (by omega) (by omega)]
            rfl
          · rintro s r' ⟨rfl, hr'⟩
            refine Ev.step (f := fun q => spec_l24Points.l1 q l (E.map (entE l) ++ [entE l p]) i (j + 1)) (fun q => ?_) hr'
            simp only [spec_l24Points.l3]
            rw [if_neg (by omega), if_pos (by rw [List.length_map]; omega), w64 (x := j + 1) (by omega) (by omega)]
            rfl
        have hlen : (E.map (entE l)).length = E.length := List.length_map _
        refine listLoop0 (σ := Bool) (ρ := List (List Int)) (l := fun q s x => spec_l24Points.l2 q l (E.map (entE l)) i j p.1 p.2.1 p.2.2 s x) E ((0, 0, 0) : Tri) (T := Com.stepT fun s e => .inl (s || e == p)) (stepT_mono _) (C := fun s r => Ev (fun q => spec_l24Points.l1 q l ((if s = true then E else E ++ [p]).map (entE l)) i (j + 1)) r) ?_ ?_ false r ?_
        · intro s x hx0 hxn r' hT
          have hT := stepT_inl hT rfl
          have hr6 : rd_L6 (E.map (entE l)) x = entE l (E.getD x.toNat (0, 0, 0)) := by
            show (E.map (entE l)).getD x.toNat [] = _
            exact getD_map (entE l) E x.toNat (0, 0, 0) [] (by omega)
          generalize E.getD x.toNat (0, 0, 0) = e at hT hr6
          refine Ev.step (f := fun q => spec_l24Points.l2 q l (E.map (entE l)) i j p.1 p.2.1 p.2.2 (s || e == p) (x + 1)) (fun q => ?_) hT
          simp only [spec_l24Points.l2]
          rw [if_pos (by rw [hlen]; exact hxn), hr6, w64 (x := x + 1) (by omega) (by omega)]
          cases s with
          | true => rw [if_pos rfl]; rfl
          | false =>
            have r0 : rd (entE l e) 0 = e.1 := rfl
            have r1 : rd (entE l e) 1 = e.2.1 := rfl
            have r2 : rd (entE l e) 2 = e.2.2 := rfl
            have l0 : (0 : Int) < ((entE l e).length : Int) := by simp [entE]
            have l1 : (1 : Int) < ((entE l e).length : Int) := by simp [entE]
            have l2 : (2 : Int) < ((entE l e).length : Int) := by simp [entE]
            rw [if_neg (by decide), if_pos hx0, if_pos l0, r0, Bool.false_or]
            obtain ⟨ex, ey, ed⟩ := e
            obtain ⟨px, py, pd⟩ := p
            simp only at r1 r2 ⊢
            by_cases c0 : ex = px
            · rw [if_pos c0, if_pos l1, r1]
              by_cases c1 : ey = py
              · rw [if_pos c1, if_pos l2, r2]
                congr 1
                rw [Bool.eq_iff_iff, beq_iff_eq, beq_iff_eq]
                simp [c0, c1]
              · rw [if_neg c1]
                congr 1
                symm
                rw [beq_eq_false_iff_ne]
                intro e
                exact c1 (congrArg (fun z : Tri => z.2.1) e)
            · rw [if_neg c0]
              congr 1
              symm
              rw [beq_eq_false_iff_ne]
              intro e
              exact c0 (congrArg (fun z : Tri => z.1) e)
        · intro s r' hC
          cases s with
          | true =>
            refine Ev.step (f := fun q => spec_l24Points.l1 q l (E.map (entE l)) i (j + 1)) (fun q => ?_) hC
            simp only [spec_l24Points.l2]
            rw [if_neg (by rw [hlen]; omega), if_pos trivial, w64 (by omega) (by omega)]
          | false =>
            refine Ev.step (f := fun q => spec_l24Points.l3 q l (E.map (entE l)) i j p.1 p.2.1 p.2.2 0 0) (fun q => ?_) (hnew r' (by simpa using hC))
            simp only [spec_l24Points.l2]
            rw [if_neg (by rw [hlen]; omega), if_neg (by decide)]
        · rw [foldT_foldl]
          have hk : ∀ (L : List Tri) (s : Bool), L.foldl (fun s e => s || e == p) s = (s || L.any fun e => e == p) := by
            intro L
            induction L with
            | nil => intro s; simp
            | cons e L ih => intro s; rw [List.foldl_cons, ih, List.any_cons, Bool.or_assoc]
          rw [hk, Bool.false_or]
          exact hT
    · intro E r hC
      refine Ev.step (f := fun q => spec_l24Points.l0 q l (E.map (entE l)) (i + 1)) (fun q => ?_) hC
      simp only [spec_l24Points.l1]
      rw [if_neg (by omega), w64 (by omega) (by omega)]
  · intro E r hC
    rw [show r = E.map (entE l) from hC]
    exact Ev.step (f := fun _ => some (E.map (entE l))) (fun q => by simp only [spec_l24Points.l0]; rw [if_neg (by omega)]) (Ev.now _)
  · rw [foldT_flat]
    refine roomT_fold (stepE l) (stepE_len l) _ _ [] _ ?_ rfl
    have : ((ints 0 l.length).flatMap fun i => (ints 0 i.toNat).map fun j => (i, j)).length ≤ 15 := hfew
    simp only [List.length_nil]
    omega
end Go.Proofs.Ytldcckcljjlglaa.Pure

namespace Go.Proofs.Ytldcckcljjlglaa.Com
open Go.RowKit Go.Proofs.YtldcckcljjlglaaW.PrintWords
set_option linter.unusedSimpArgs false
set_option linter.unusedVariables false
variable {σ τ ρ υ : Type}
theorem nest_flatT {T : σ → υ → (σ → ρ → Prop) → ρ → Prop} (hT : MonoT T) (L : τ → List υ) (C : σ → ρ → Prop) (J : List τ) : ∀ s r, foldT (nestT (fun _ => T) L) C J s r ↔ foldT T C (J.flatMap L) s r := by
  induction J with
  | nil => intro s r; exact Iff.rfl
  | cons t J ih =>
    intro s r
    rw [List.flatMap_cons, foldT_append]
    exact ⟨fun h => foldT_mono hT (fun s r => (ih s r).1) (L t) s r h, fun h => foldT_mono hT (fun s r => (ih s r).2) (L t) s r h⟩
theorem foldT_mapT (T : σ → τ → (σ → ρ → Prop) → ρ → Prop) (f : υ → τ) (C : σ → ρ → Prop) (L : List υ) : ∀ s r, foldT T C (L.map f) s r ↔ foldT (fun s u => T s (f u)) C L s r := by
  induction L with
  | nil => intro s r; exact Iff.rfl
  | cons u L ih =>
    have e : foldT T C (L.map f) = foldT (fun s u => T s (f u)) C L := by funext s r; exact propext (ih s r)
    intro s r
    show T s (f u) (foldT T C (L.map f)) r ↔ T s (f u) (foldT (fun s u => T s (f u)) C L) r
    rw [e]
/-- Three loops in each other, over the ascending lists of three of n. -/
theorem tripLoopT {l0 : Nat → σ → Int → Option ρ} {l1 : Nat → σ → Int → Int → Option ρ} {l2 : Nat → σ → Int → Int → Int → Option ρ} (n : Nat) {T : σ → (Int × Int × Int) → (σ → ρ → Prop) → ρ → Prop} (hM : MonoT T) {C : σ → ρ → Prop}
    (h2 : ∀ s i j k, 0 ≤ i → i < j → j < k → k < (n : Int) → ∀ r, T s (i, j, k) (fun s' r' => Ev (fun q => l2 q s' i j (k + 1)) r') r → Ev (fun q => l2 q s i j k) r)
    (h2e : ∀ s i j, 0 ≤ i → i < j → j < (n : Int) → ∀ r, Ev (fun q => l1 q s i (j + 1)) r → Ev (fun q => l2 q s i j n) r)
    (h1 : ∀ s i j, 0 ≤ i → i < j → j < (n : Int) → ∀ r, Ev (fun q => l2 q s i j (j + 1)) r → Ev (fun q => l1 q s i j) r)
    (h1e : ∀ s i, 0 ≤ i → i < (n : Int) → ∀ r, Ev (fun q => l0 q s (i + 1)) r → Ev (fun q => l1 q s i n) r)
    (h0 : ∀ s i, 0 ≤ i → i < (n : Int) → ∀ r, Ev (fun q => l1 q s i (i + 1)) r → Ev (fun q => l0 q s i) r)
    (h0e : ∀ s r, C s r → Ev (fun q => l0 q s n) r) (s : σ) (r : ρ) (hT : foldT T C (trips n) s r) : Ev (fun q => l0 q s 0) r := by
  unfold trips at hT
  rw [← nest_flatT hM] at hT
  refine rangeLoop (l := l0) (n : Int) (nestT_mono (fun _ => hM) _) (C := C) 0 ?_ h0e n 0 (by omega) (by omega) s _ hT
  intro s i hi0 hin r hT
  refine h0 s i hi0 hin r ?_
  unfold nestT at hT
  rw [← nest_flatT hM] at hT
  refine rangeLoop (l := fun q s j => l1 q s i j) (n : Int) (nestT_mono (fun _ => hM) _) (i + 1) ?_ (fun s r h => h1e s i hi0 hin r h) ((n : Int) - 1 - i).toNat (i + 1) (by omega) (by omega) s r hT
  intro s j hj0 hjn r hT
  refine h1 s i j hi0 (by omega) hjn r ?_
  unfold nestT at hT
  rw [foldT_mapT] at hT
  refine rangeLoop (l := fun q s k => l2 q s i j k) (n : Int) (T := fun s k => T s (i, j, k)) (fun s t C D r h hh => hM s _ C D r h hh) (j + 1) ?_ (fun s r h => h2e s i j hi0 (by omega) hjn r h) ((n : Int) - 1 - j).toNat (j + 1) (by omega) (by omega) s r hT
  intro s k hk0 hkn r hT
  exact h2 s i j k hi0 (by omega) (by omega) hkn r hT
/-- A round that may put a value behind the row. -/
def pushT (g : τ → Option υ) : List υ → τ → (List υ → ρ → Prop) → ρ → Prop := fun s t C r =>
  match g t with
  | some v => s.length < 1000000 ∧ C (s ++ [v]) r
  | none => C s r
theorem pushT_mono (g : τ → Option υ) : MonoT (pushT (ρ := ρ) g) := by
  intro s t C D r h hT
  unfold pushT at *
  revert hT
  cases g t with
  | some v => exact fun hT => ⟨hT.1, h _ _ hT.2⟩
  | none => exact fun hT => h _ _ hT
theorem pushT_fold (g : τ → Option υ) (C : List υ → ρ → Prop) (L : List τ) : ∀ s r, s.length + L.length ≤ 1000000 → C (s ++ L.filterMap g) r → foldT (pushT g) C L s r := by
  induction L with
  | nil => intro s r _ h; show C s r; simpa using h
  | cons t L ih =>
    intro s r hb h
    simp only [List.length_cons] at hb
    show pushT g s t _ r
    unfold pushT
    cases hg : g t with
    | some v =>
      refine ⟨by omega, ih _ _ (by simp; omega) ?_⟩
      rw [List.filterMap_cons, hg] at h
      simpa using h
    | none =>
      refine ih _ _ (by omega) ?_
      rw [List.filterMap_cons, hg] at h
      exact h
theorem pushT_some {g : τ → Option υ} {s : List υ} {t : τ} {C : List υ → ρ → Prop} {r : ρ} {v : υ} (h : pushT g s t C r) (e : g t = some v) : s.length < 1000000 ∧ C (s ++ [v]) r := by unfold pushT at h; rw [e] at h; exact h
theorem pushT_none {g : τ → Option υ} {s : List υ} {t : τ} {C : List υ → ρ → Prop} {r : ρ} (h : pushT g s t C r) (e : g t = none) : C s r := by unfold pushT at h; rw [e] at h; exact h
end Go.Proofs.Ytldcckcljjlglaa.Com

namespace Go.Proofs.Ytldcckcljjlglaa.P
open Go.RowKit Go.Proofs.YtldcckcljjlglaaW.PrintWords Go.Proofs.YtldcckcljjlglaaW.PrintLast Go.Proofs.YtldcckcljjlglaaW.PrintMore
attribute [local go_sem] max2_int min2_int max_two min_two max_three min_three max_four min_four   -- for this text's walks alone
set_option linter.unusedVariables false
set_option linter.unusedSimpArgs false

/-! ### spec_l16Put: function 112 -/
def spec_l16Put.l0 : Nat → List Int → Int → Int → Option (List Int)
 | 0, _, _, _ => none
 | k + 1, x0, x1, x5 => if x5 > 0 then (if 0 ≤ (wrap64 (x5 - 1)) then (if (wrap64 (x5 - 1)) < (x0.length : Int) then (if (rd x0 (wrap64 (x5 - 1))) > x1 then (spec_l16Put.l0 k x0 x1 (wrap64 (x5 - 1))) else ((some (([] : List Int) : List Int)).bind fun y102 => (if 0 ≤ x5 then (if x5 ≤ (x0.length : Int) then ((some (x0.drop (x5 : Int).toNat : List Int)).bind fun y105 => (if y102.length + y105.length < 17592186044416 then ((some (y102 ++ y105 : List Int)).bind fun y109 => ((some (x0.take (x5 : Int).toNat : List Int)).bind fun y112 => (if y112.length < 17592186044416 then ((some (y112 ++ [x1] : List Int)).bind fun y115 => (if y115.length + y109.length < 17592186044416 then (some (y115 ++ y109)) else (none))) else (none)))) else (none))) else (none)) else (none)))) else (none)) else (none)) else ((some (([] : List Int) : List Int)).bind fun y121 => (if 0 ≤ x5 then (if x5 ≤ (x0.length : Int) then ((some (x0.drop (x5 : Int).toNat : List Int)).bind fun y124 => (if y121.length + y124.length < 17592186044416 then ((some (y121 ++ y124 : List Int)).bind fun y128 => ((some (x0.take (x5 : Int).toNat : List Int)).bind fun y131 => (if y131.length < 17592186044416 then ((some (y131 ++ [x1] : List Int)).bind fun y134 => (if y134.length + y128.length < 17592186044416 then (some (y134 ++ y128)) else (none))) else (none)))) else (none))) else (none)) else (none)))
def spec_l16Put.f (k : Nat) (l0 : List Int) (a1 : Int) : Option (List Int) := spec_l16Put.l0 k l0 a1 (l0.length : Int)
theorem spec_l16Put.mono_l : ∀ k, (∀ y0 y1 y2, LeO (spec_l16Put.l0 k y0 y1 y2) (spec_l16Put.l0 (k + 1) y0 y1 y2))
 | 0 => fun _ _ _ r h => by simp [spec_l16Put.l0] at h
 | k + 1 => by
  have ih0 := spec_l16Put.mono_l k
  ·intro y0 y1 y2
   unfold spec_l16Put.l0
   repeat' first
   | (with_reducible exact ih0 _ _ _)
   | (with_reducible exact LeO.refl _)
   | (with_reducible exact LeO.none _)
   | (with_reducible refine LeO.ite ?_ ?_)
   | (with_reducible refine LeO.bind ?_ (fun _ => ?_))
   | exact ih0 _ _ _
   | exact LeO.none _
   | refine LeO.ite ?_ ?_
   | refine LeO.bind ?_ (fun _ => ?_)
theorem spec_l16Put.mono : ∀ a0 a1 k, LeO (spec_l16Put.f k a0 a1) (spec_l16Put.f (k + 1) a0 a1) := by
 intro a0 a1 k
 have ih0 := spec_l16Put.mono_l k
 unfold spec_l16Put.f
 repeat' first
   | (with_reducible exact ih0 _ _ _)
   | (with_reducible exact LeO.refl _)
   | (with_reducible exact LeO.none _)
   | (with_reducible refine LeO.ite ?_ ?_)
   | (with_reducible refine LeO.bind ?_ (fun _ => ?_))
   | exact ih0 _ _ _
   | exact LeO.none _
   | refine LeO.ite ?_ ?_
   | refine LeO.bind ?_ (fun _ => ?_)
theorem pw_nil_row {α : Type} {d : Kd α} {e base n c : Nat} {w : World} {ok : Nat → Prop} {xs : List α} (h : d.R e w base ok (.slice none n c) xs) : xs = [] ∧ c = 0 := by
 obtain ⟨_, inner, ho, hr⟩ := h
 rcases ho.2 with ⟨hv, hn⟩ | ⟨g, cap, cur, hv, _⟩
 ·injection hv with _ h2 h3
  exact ⟨List.eq_nil_of_length_eq_zero hn, h3⟩
 ·cases hv
set_option maxHeartbeats 4000000 in
set_option maxRecDepth 100000 in
theorem spec_l16Put.calls_nil (a1 : Int) (w : World) :
  Calls Try.prog 112 #[.slice none 0 0, .int .i64 a1] w fun e w' => ∃ v0_ : Value, e = .returned (v0_) ∧ Kd.R (Kd.int .i64) 3 w' w.heap.size (fun _ => True) v0_ [a1] ∧ Below w.heap.size w w' := by
 have HB := Aside0.mk (Below.refl w.heap.size w)
 go_enter Try.func112, Try.ntmps112
 go_wp2
 go_loopg [5] 1 (fun kq v5 w' => v5 = .int .i64 0 ∧ w' = w)
 case atStart => exact ⟨rfl, rfl⟩
 case round =>
  obtain ⟨rfl, rfl⟩ := hrel
  go_wp2_with (first | ((with_reducible refine gate_dst (N := 22) rfl ?_); refine Kd.R_lit (Kd.int .i64) _ 3 ?hg (N := 22) ?hd (xs := ([] : List Int)) (inner := []) (ok := fun _ => True) (okp := fun _ => True) ?hr ?hp (fun _ hk => hk) trivial (Below.refl _ _) (Nat.le_refl _) (by simp) ?_; (case hd => rfl); (case hg => rfl); (case hr => first | (go_simp; done) | (go_simp; rfl)); (case hp => exact (Reps.none _ _)); intro v1 w1 ho hb hg_ hnew_; clear hg_ hnew_; have m0_ := Aside0.mk hb; have m1_ := Aside0.mk ho; clear HB ho hb; have HB := m0_; have HO1 := m1_; clear m0_ m1_) | ((with_reducible refine gate_builtin (b := .append) (xs := #[.tmp 22, .tmp 25]) rfl ?_); at_builtin; refine Kd.R_append_rows (Kd.int .i64) (w0 := wr) wr.heap.size rfl (.tmp 22) (.tmp 25) 29 3 (.int .i64 0) 8 rfl Try.underlying29 info3 rfl (by decide) (by omega) v1 [] [] none 0 0 (fun _ => True) (fun _ => False) rfl rfl HO1.out (Kd.C_nil (Kd.int .i64) _) (fun _ _ h => h) (fun _ h => h.elim) (fun _ _ => trivial) HB.out (below_size HB.out) (by simp) ?_; intro v2 w2 ho hb hg hat; have m0_ := Aside0.mk hb; have m1_ := Aside0.mk ho; clear HB HO1 ho hb hg hat; have HB := m0_; have HO2 := m1_; clear m0_ m1_; obtain ⟨A2, c2, e2⟩ := Kd.R_slice HO2.out; subst e2) | ((with_reducible refine gate_builtin (b := .append) (xs := #[.tmp 29, .tmp 31]) rfl ?_); at_builtin; refine Kd.R_append (Kd.int .i64) (w0 := wr) wr.heap.size rfl (.tmp 29) (.tmp 31) 29 3 (.int .i64 0) 8 rfl Try.underlying29 info3 rfl (by decide) (by omega) (.slice none 0 0) [] a1 [.int .i64 a1] (fun k_ => some k_ ≠ (.slice A2 (([] : List Int) ++ []).length c2 : Value).ownBlock) (fun _ => False) rfl rfl rfl (fun _ hk => hk.elim) (Kd.fresh' (Kd.R_lt HO2.out)) (Kd.R_nil _ _ _ _ _) HB.out (below_size HB.out) (by simp) ?_; intro v3 w3 ho hb hg hat; have m0_ := Aside0.mk hb; have m1_ := Aside0.mk ho; have m2_ := Aside0.mk (Kd.R_grown HO2.out hg (fun _ _ h_ => by cases h_)); clear HB HO2 ho hb hg hat; have HB := m0_; have HO3 := m1_; clear m0_ m1_; have HO2 := m2_; clear m2_) | ((with_reducible refine gate_builtin (b := .append) (xs := #[.tmp 32, .tmp 33]) rfl ?_); at_builtin; refine Kd.R_append_rows (Kd.int .i64) (w0 := wr) wr.heap.size rfl (.tmp 32) (.tmp 33) 29 3 (.int .i64 0) 8 rfl Try.underlying29 info3 rfl (by decide) (by omega) v3 [a1] [] A2 0 c2 (fun _ => True) (fun _ => False) rfl rfl (Kd.R_mono HO3.out (fun _ _ => trivial)) (Kd.R_reads' HO2.out).2.2 (fun _ _ h => h) (fun _ h => h.elim) (fun _ _ => trivial) HB.out (below_size HB.out) (by simp) ?_; intro v4 w4 ho hb hg hat; have m0_ := Aside0.mk hb; have m1_ := Aside0.mk ho; clear HB HO2 HO3 ho hb hg hat; have HB := m0_; have HO4 := m1_; clear m0_ m1_))
  go_ret
  exact ⟨_, rfl, HO4.out, HB.out⟩
set_option maxHeartbeats 8000000 in
set_option maxRecDepth 100000 in
theorem spec_l16Put.calls (k : Nat) (P0_ : Nat → Prop) (u9000_ : Value) (l0 : List Int) (a1 : Int) (r : List Int) (w0 w : World) (hB : Below w0.heap.size w0 w) (ho0 : Kd.R (Kd.int .i64) 3 w w0.heap.size P0_ u9000_ l0) (h : spec_l16Put.f k l0 a1 = some r) :
  Calls Try.prog 112 #[u9000_, .int .i64 a1] w fun e w' => ∃ v0_ : Value, e = .returned (v0_) ∧ Kd.R (Kd.int .i64) 3 w' w0.heap.size (fun k_ => (P0_ k_ ∨ w.heap.size ≤ k_)) v0_ r ∧ Below w0.heap.size w0 w' ∧ Kept w w' (fun k_ => P0_ k_) := by
 have HO0 := Aside0.mk (show Kd.R (Kd.int .i64) 3 w w0.heap.size (fun k_ => (P0_ k_ ∨ w.heap.size ≤ k_)) u9000_ l0 from Kd.R_mono ho0 (fun k_ hk => (.inl hk)))
 have HK := Aside0.mk (Kept.refl w (fun k_ => P0_ k_))
 have HW0 := Aside0.mk hB.size
 have HB := Aside0.mk hB
 clear hB
 have H : (spec_l16Put.l0 k l0 a1 (l0.length : Int)) = some r := h
 clear h
 have H' := Aside0.mk H
 clear H
 obtain ⟨Ao3, co3, eo3⟩ := Kd.R_slice HO0.out
 subst eo3
 cases Ao3 with
 | none =>
  obtain ⟨hl_, hc_⟩ := pw_nil_row HO0.out
  subst hl_
  subst hc_
  have hr_ : r = [a1] := by
   have h_ := H'.out
   cases k with
   | zero => simp [spec_l16Put.l0] at h_
   | succ k => simpa [spec_l16Put.l0] using h_.symm
  subst hr_
  refine (spec_l16Put.calls_nil a1 w).mono ?_
  rintro e w' ⟨v_, rfl, hR_, hb_⟩
  exact ⟨v_, rfl, Kd.R_lower (Kd.R_mono (Kd.R_bound hR_) (fun k_ hk_ => .inr hk_.2.1)) HB.out.size, below_step HB.out hb_, Kept.of_below hb_ _⟩
 | some ao_ =>
  go_enter Try.func112, Try.ntmps112
  go_wp2
  go_loopg [5] k (fun kq v5 w' => ∃ (x5_1 : Int), v5 = .int .i64 x5_1 ∧ Aside0 (spec_l16Put.l0 kq l0 a1 x5_1 = some r) ∧ Aside0 (kq ≤ k) ∧ Aside0 (Kd.R (Kd.int .i64) 3 w' w0.heap.size (fun k_ => (P0_ k_ ∨ w.heap.size ≤ k_)) (.slice (some ao_) l0.length co3) l0) ∧ Aside0 (Kept w w' (fun k_ => P0_ k_)) ∧ Aside0 (Below w0.heap.size w0 w'))
  case atStart => exact ⟨((l0.length : Int)), (by first | rfl | (simp; done) | (simp [*]; done)), H', ⟨Nat.le_refl _⟩, ⟨by (with_reducible repeat (first | apply Kd.R_alloc | apply Kd.R_drewN | apply Kd.R_drew)); exact HO0.out⟩, ⟨by repeat (first | (with_reducible first | exact HK.out | apply Kept.alloc | apply Kept.drewN | apply Kept.drew) | exact HK.out)⟩, ⟨by repeat (first | (with_reducible first | exact HB.out | apply below_alloc | apply pw_below_drewN | apply below_drew1) | exact HB.out)⟩⟩
  case round =>
   clear H'
   try clear c1
   try clear p2
   obtain ⟨x5_1, rfl, HA, HK1, HO_0, HK, HB⟩ := hrel
   cases gk with
   | zero => exact absurd HA.out (by simp [spec_l16Put.l0])
   | succ k1 =>
    have H := HA.out
    clear HA
    simp only [spec_l16Put.l0] at H
    by_cases c4 : x5_1 > 0
    ·rw [if_pos c4] at H
     have c4b0 : decide (0 < x5_1) = true := decide_eq_true c4
     clear c4
     obtain ⟨ji5, hji5⟩ : ∃ j_ : Int, (wrap64 (x5_1 - 1)) = j_ := ⟨_, rfl⟩
     replace H : (if 0 ≤ (ji5) then (if (ji5) < (l0.length : Int) then (if (rd l0 (ji5)) > a1 then (spec_l16Put.l0 k1 l0 a1 ji5) else ((some (([] : List Int) : List Int)).bind fun y102 => (if 0 ≤ x5_1 then (if x5_1 ≤ (l0.length : Int) then ((some (l0.drop (x5_1 : Int).toNat : List Int)).bind fun y105 => (if y102.length + y105.length < 17592186044416 then ((some (y102 ++ y105 : List Int)).bind fun y109 => ((some (l0.take (x5_1 : Int).toNat : List Int)).bind fun y112 => (if y112.length < 17592186044416 then ((some (y112 ++ [a1] : List Int)).bind fun y115 => (if y115.length + y109.length < 17592186044416 then (some (y115 ++ y109)) else (none))) else (none)))) else (none))) else (none)) else (none)))) else (none)) else (none)) = some r := by first | (rw [hji5] at H; exact H) | (simp only [hji5] at H ⊢; exact H)
     have hji5w : (IntKind.i64.wrap (x5_1 - 1)) = ji5 := (i64_w _).trans hji5
     by_cases c6 : 0 ≤ (ji5)
     ·rw [if_pos c6] at H
      have c6b0 : decide (0 ≤ (ji5)) = true := decide_eq_true c6
      clear c6
      by_cases c7 : (ji5) < (l0.length : Int)
      ·rw [if_pos c7] at H
       have c7b0 : decide ((ji5) < (l0.length : Int)) = true := decide_eq_true c7
       clear c7
       by_cases c8 : (rd l0 (ji5)) > a1
       ·rw [if_pos c8] at H
        have c8b0 : decide (a1 < (rd l0 (ji5))) = true := decide_eq_true c8
        clear c8
        have H' := Aside0.mk H
        clear H
        have p101 : 0 ≤ ((ji5) : Int) := of_decide_eq_true (by first | (with_reducible assumption) | assumption)
        have q101 : (ji5) < (l0.length : Int) := of_decide_eq_true (by first | (with_reducible assumption) | assumption)
        obtain ⟨ad101, e101, hx101_0⟩ := Kd.at_int (Kd.R_reads' HO_0.out).2.2 (ji5) p101 q101
        cases e101
        replace p101 := eq_true p101
        replace q101 := eq_true q101
        go_wp2
        go_roundg k1
        case measure => have := HK1.out; omega
        case rel => exact ⟨(ji5), (by first | rfl | (simp; done) | (simp only [← hji5] <;> (first | rfl | simp)) | (simp [*]; done)), H', ⟨by have := HK1.out; omega⟩, ⟨by (with_reducible repeat (first | apply Kd.R_alloc | apply Kd.R_drewN | apply Kd.R_drew)); exact HO_0.out⟩, ⟨by repeat (first | (with_reducible first | exact HK.out | apply Kept.alloc | apply Kept.drewN | apply Kept.drew) | exact HK.out)⟩, ⟨by repeat (first | (with_reducible first | exact HB.out | apply below_alloc | apply pw_below_drewN | apply below_drew1) | exact HB.out)⟩⟩
       ·rw [if_neg c8] at H
        have c8b0 : decide (a1 < (rd l0 (ji5))) = false := decide_eq_false c8
        clear c8
        obtain ⟨y102, hy102⟩ : ∃ y_ : List Int, y_ = (([] : List Int)) := ⟨_, rfl⟩
        replace H : (if 0 ≤ x5_1 then (if x5_1 ≤ (l0.length : Int) then ((some (l0.drop (x5_1 : Int).toNat : List Int)).bind fun y105 => (if y102.length + y105.length < 17592186044416 then ((some (y102 ++ y105 : List Int)).bind fun y109 => ((some (l0.take (x5_1 : Int).toNat : List Int)).bind fun y112 => (if y112.length < 17592186044416 then ((some (y112 ++ [a1] : List Int)).bind fun y115 => (if y115.length + y109.length < 17592186044416 then (some (y115 ++ y109)) else (none))) else (none)))) else (none))) else (none)) else (none)) = some r := by first | (rw [hy102]; with_reducible exact H) | (have H2_ := (Option.bind_some _ _).symm.trans H; rw [hy102]; with_reducible exact H2_) | (have H2_ := (Option.bind_some _ _).symm.trans H; with_reducible exact H2_) | with_reducible exact H | (rw [hy102]; exact H) | exact H
        have Ny102 := Aside0.mk hy102
        clear hy102
        by_cases c9 : 0 ≤ x5_1
        ·rw [if_pos c9] at H
         have c9b0 := eq_true c9
         have c9b1 : decide (0 ≤ x5_1) = true := decide_eq_true c9
         clear c9
         by_cases c10 : x5_1 ≤ (l0.length : Int)
         ·rw [if_pos c10] at H
          have c10b0 := eq_true c10
          have c10b1 : decide (x5_1 ≤ (l0.length : Int)) = true := decide_eq_true c10
          clear c10
          obtain ⟨y105, hy105⟩ : ∃ y_ : List Int, y_ = (l0.drop (x5_1 : Int).toNat) := ⟨_, rfl⟩
          replace H : (if y102.length + y105.length < 17592186044416 then ((some (y102 ++ y105 : List Int)).bind fun y109 => ((some (l0.take (x5_1 : Int).toNat : List Int)).bind fun y112 => (if y112.length < 17592186044416 then ((some (y112 ++ [a1] : List Int)).bind fun y115 => (if y115.length + y109.length < 17592186044416 then (some (y115 ++ y109)) else (none))) else (none)))) else (none)) = some r := by first | (rw [hy105]; with_reducible exact H) | (have H2_ := (Option.bind_some _ _).symm.trans H; rw [hy105]; with_reducible exact H2_) | (have H2_ := (Option.bind_some _ _).symm.trans H; with_reducible exact H2_) | with_reducible exact H | (rw [hy105]; exact H) | exact H
          have Ny105 := Aside0.mk hy105
          clear hy105
          by_cases c11 : y102.length + y105.length < 17592186044416
          ·rw [if_pos c11] at H
           have LMc11 := Aside0.mk c11
           clear c11
           obtain ⟨y109, hy109⟩ : ∃ y_ : List Int, y_ = (y102 ++ y105) := ⟨_, rfl⟩
           replace H : ((some (l0.take (x5_1 : Int).toNat : List Int)).bind fun y112 => (if y112.length < 17592186044416 then ((some (y112 ++ [a1] : List Int)).bind fun y115 => (if y115.length + y109.length < 17592186044416 then (some (y115 ++ y109)) else (none))) else (none))) = some r := by first | (rw [hy109]; with_reducible exact H) | (have H2_ := (Option.bind_some _ _).symm.trans H; rw [hy109]; with_reducible exact H2_) | (have H2_ := (Option.bind_some _ _).symm.trans H; with_reducible exact H2_) | with_reducible exact H | (rw [hy109]; exact H) | exact H
           have Ny109 := Aside0.mk hy109
           clear hy109
           have c12b0 := eq_true (of_decide_eq_true (by first | (with_reducible assumption) | assumption) : x5_1 ≤ (l0.length : Int))
           obtain ⟨y112, hy112⟩ : ∃ y_ : List Int, y_ = (l0.take (x5_1 : Int).toNat) := ⟨_, rfl⟩
           replace H : (if y112.length < 17592186044416 then ((some (y112 ++ [a1] : List Int)).bind fun y115 => (if y115.length + y109.length < 17592186044416 then (some (y115 ++ y109)) else (none))) else (none)) = some r := by first | (rw [hy112]; with_reducible exact H) | (have H2_ := (Option.bind_some _ _).symm.trans H; rw [hy112]; with_reducible exact H2_) | (have H2_ := (Option.bind_some _ _).symm.trans H; with_reducible exact H2_) | with_reducible exact H | (rw [hy112]; exact H) | exact H
           have Ny112 := Aside0.mk hy112
           clear hy112
           by_cases c13 : y112.length < 17592186044416
           ·rw [if_pos c13] at H
            have LMc13 := Aside0.mk c13
            clear c13
            obtain ⟨y115, hy115⟩ : ∃ y_ : List Int, y_ = (y112 ++ [a1]) := ⟨_, rfl⟩
            replace H : (if y115.length + y109.length < 17592186044416 then (some (y115 ++ y109)) else (none)) = some r := by first | (rw [hy115]; with_reducible exact H) | (have H2_ := (Option.bind_some _ _).symm.trans H; rw [hy115]; with_reducible exact H2_) | (have H2_ := (Option.bind_some _ _).symm.trans H; with_reducible exact H2_) | with_reducible exact H | (rw [hy115]; exact H) | exact H
            have Ny115 := Aside0.mk hy115
            clear hy115
            by_cases c14 : y115.length + y109.length < 17592186044416
            ·rw [if_pos c14] at H
             have LMc14 := Aside0.mk c14
             clear c14
             obtain ⟨y118, hy118⟩ : ∃ y_ : List Int, y_ = (y115 ++ y109) := ⟨_, rfl⟩
             replace H : (some y118) = some r := by first | (rw [hy118]; with_reducible exact H) | (have H2_ := (Option.bind_some _ _).symm.trans H; rw [hy118]; with_reducible exact H2_) | (have H2_ := (Option.bind_some _ _).symm.trans H; with_reducible exact H2_) | with_reducible exact H | (rw [hy118]; exact H) | exact H
             have Ny118 := Aside0.mk hy118
             clear hy118
             obtain rfl := Option.some.inj H
             have p101 : 0 ≤ ((ji5) : Int) := of_decide_eq_true (by first | (with_reducible assumption) | assumption)
             have q101 : (ji5) < (l0.length : Int) := of_decide_eq_true (by first | (with_reducible assumption) | assumption)
             obtain ⟨ad101, e101, hx101_0⟩ := Kd.at_int (Kd.R_reads' HO_0.out).2.2 (ji5) p101 q101
             cases e101
             replace p101 := eq_true p101
             replace q101 := eq_true q101
             go_wp2_with (first | ((with_reducible refine gate_dst (N := 22) rfl ?_); refine Kd.R_lit (Kd.int .i64) _ 3 ?hg (N := 22) ?hd (xs := ([] : List Int)) (inner := []) (ok := fun _ => True) (okp := fun _ => True) ?hr ?hp (fun _ hk => hk) trivial (Below.refl _ _) (Nat.le_refl _) (by simp) ?_; (case hd => rfl); (case hg => rfl); (case hr => first | (go_simp; done) | (go_simp; rfl)); (case hp => exact (Reps.none _ _)); intro v103 w15 ho16 hb hg_ hnew_; clear hg_ hnew_; (first | rw [← Ny102.out] at ho16 | (simp only [Int.reduceToNat] at ho16; rw [← Ny102.out] at ho16)); have n0_ := Aside0.mk (Kd.R_elder' (by (with_reducible repeat (first | apply Kd.R_alloc | apply Kd.R_drewN | apply Kd.R_drew)); exact HO_0.out) (Kd.R_base ho16) hb); have n1_ := Aside0.mk (Kd.R_lower (Kd.R_new' (Kd.R_newM (M := fun k_ => (P0_ k_ ∨ w.heap.size ≤ k_)) ho16 (by first | exact HK.out.1 | exact (show Kept w _ (fun k_ => P0_ k_) from by repeat (first | (with_reducible first | exact HK.out | apply Kept.alloc | apply Kept.drewN | apply Kept.drew) | exact HK.out)).1) (fun k_ h_ => .inr h_)) (Kd.R_lt (by (with_reducible repeat (first | apply Kd.R_alloc | apply Kd.R_drewN | apply Kd.R_drew)); exact HO_0.out))) (below_size (by repeat (first | (with_reducible first | exact HB.out | apply below_alloc | apply pw_below_drewN | apply below_drew1) | exact HB.out)))); have n2_ := Aside0.mk (Kept.below (S := (fun k_ => P0_ k_)) (by repeat (first | (with_reducible first | exact HK.out | apply Kept.alloc | apply Kept.drewN | apply Kept.drew) | exact HK.out)) hb); have n3_ := Aside0.mk (below_step (by repeat (first | (with_reducible first | exact HB.out | apply below_alloc | apply pw_below_drewN | apply below_drew1) | exact HB.out)) hb); clear HO_0; clear HK; clear HB; have HO_0 := n0_; have HO104 := n1_; have HK := n2_; have HB := n3_; clear n0_ n1_ n2_ n3_; clear hb ho16; have q17 : (x5_1 : Int) ≤ ((l0.length : Int) : Int) := of_decide_eq_true (by first | (with_reducible assumption) | assumption); obtain ⟨i017, hi017, _, hsz17, _⟩ := info_parts info3; have hroom17 : l0.length ≤ co3 := (Kd.R_reads' HO_0.out).2.1; have hC17 : Kd.C (Kd.int .i64) _ (some ao_) l0.length l0 := (Kd.R_reads' HO_0.out).2.2; have q017 : (0 : Int) ≤ (x5_1 : Int) := of_decide_eq_true (by first | (with_reducible assumption) | assumption); have hcut17 := cut_from (P := Try.prog) 29 3 .i64 Try.underlying29 hi017 1 hsz17 (some ao_) l0.length co3 x5_1 q017 q17; have hr17 := Kd.C_drop (m := (x5_1 : Int).toNat) (c := co3) hC17 (by omega) hroom17; obtain ⟨A17, hA17⟩ : ∃ A1, A1 = (if co3 = (x5_1 : Int).toNat then (some ao_) else ((some ao_) : Option Addr).map (·.add ((x5_1 : Int).toNat * 1))) := ⟨_, rfl⟩; obtain ⟨c17, hc17⟩ : ∃ c1, c1 = co3 - (x5_1 : Int).toNat := ⟨_, rfl⟩; have hy17 : y105.length = l0.length - (x5_1 : Int).toNat := (by rw [Ny105.out, List.length_drop] <;> omega); rw [show (l0).drop (x5_1 : Int).toNat = y105 from Ny105.out.symm] at hr17; replace hr17 : Kd.C (Kd.int .i64) _ A17 y105.length y105 := (by rw [hA17]; exact hr17); rw [← hy17, ← hA17, ← hc17] at hcut17; have HR108 := Aside0.mk hr17; have HC108 := Aside0.mk (show y105.length ≤ c17 from by rw [hy17, hc17]; exact Nat.sub_le_sub_right hroom17 _); clear hr17 hC17 hroom17 hi017 hsz17 hc17; have KY17 := Aside0.mk hy17; have KA17 := Aside0.mk hA17; clear hy17 hA17; have KL17 := Aside0.mk (show (x5_1 : Int).toNat ≤ l0.length from by omega); replace q17 := eq_true q17) | ((with_reducible refine gate_builtin (b := .append) (xs := #[.tmp 22, .tmp 25]) rfl ?_); at_builtin; refine Kd.R_append_rows (Kd.int .i64) (w0 := w0) w0.heap.size rfl (.tmp 22) (.tmp 25) 29 3 (.int .i64 0) 8 rfl Try.underlying29 info3 rfl (by decide) (by omega) v103 y102 y105 _ _ _ (fun k_ => (P0_ k_ ∨ w.heap.size ≤ k_) ∧ some k_ ≠ (.slice (some ao_) l0.length co3 : Value).ownBlock) (fun _ => False) rfl rfl ?aO ?aR (fun _ _ h => h) (fun _ h => h.elim) ?aF ?aB ?aS ?aL ?_; (case aR => repeat (first | exact (by repeat (first | (with_reducible exact HR108.out) | (with_reducible refine Kd.C_alloc ?_ _) | (with_reducible refine Kd.C_drewN ?_ _) | (with_reducible refine Kd.C_drew ?_) | exact HR108.out)) | (with_reducible refine Kd.C_alloc ?_ _) | (with_reducible refine Kd.C_drewN ?_ _) | (with_reducible refine Kd.C_drew ?_))); (case aB => exact (by repeat (first | (with_reducible first | exact HB.out | apply below_alloc | apply pw_below_drewN | apply below_drew1) | exact HB.out))); (case aF => exact (fun k_ hk => ⟨(.inr (Nat.le_trans (by first | exact HK.out.1 | exact (show Kept w _ (fun k_ => P0_ k_) from by repeat (first | (with_reducible first | exact HK.out | apply Kept.alloc | apply Kept.drewN | apply Kept.drew) | exact HK.out)).1) hk)), Kd.fresh' (Kd.R_lt (by (with_reducible repeat (first | apply Kd.R_alloc | apply Kd.R_drewN | apply Kd.R_drew)); exact HO_0.out)) k_ hk⟩)); (case aO => exact (by (with_reducible repeat (first | apply Kd.R_alloc | apply Kd.R_drewN | apply Kd.R_drew)); exact Kd.R_mono HO104.out (fun _ hk => ⟨hk.1.1, hk.2⟩))); (case aS => exact (below_size (by repeat (first | (with_reducible first | exact HB.out | apply below_alloc | apply pw_below_drewN | apply below_drew1) | exact HB.out)))); (case aL => have := LMc11.out; omega); intro v110 w18 ho hb hg hat; rw [← Ny109.out] at ho; have n0_ := Aside0.mk (Kd.R_after (ok := (fun k_ => (P0_ k_ ∨ w.heap.size ≤ k_))) (by (with_reducible repeat (first | apply Kd.R_alloc | apply Kd.R_drewN | apply Kd.R_drew)); exact HO_0.out) hg hat); have n1_ := Aside0.mk (hb); have n2_ := Aside0.mk (Kept.of_grown (S := (fun k_ => P0_ k_)) hg (by repeat (first | (with_reducible first | exact HK.out | apply Kept.alloc | apply Kept.drewN | apply Kept.drew) | exact HK.out)) (fun k_ e_ => (HO104.out.1 k_ e_).1.1)); have n3_ := Aside0.mk ((show Kd.C (Kd.int .i64) w18 A17 y105.length y105 from by rw [Ny105.out, KA17.out]; exact Kd.C_drop (m := (x5_1 : Int).toNat) (c := co3) ((Kd.R_reads' (Kd.R_after (ok := (fun k_ => (P0_ k_ ∨ w.heap.size ≤ k_))) (by (with_reducible repeat (first | apply Kd.R_alloc | apply Kd.R_drewN | apply Kd.R_drew)); exact HO_0.out) hg hat)).2.2) KL17.out ((Kd.R_reads' (Kd.R_after (ok := (fun k_ => (P0_ k_ ∨ w.heap.size ≤ k_))) (by (with_reducible repeat (first | apply Kd.R_alloc | apply Kd.R_drewN | apply Kd.R_drew)); exact HO_0.out) hg hat)).2.1))); have n4_ := Aside0.mk (ho); clear HO_0; clear HB; clear HK; clear HR108; clear HO104; have HO_0 := n0_; have HB := n1_; have HK := n2_; have HR108 := n3_; have HO111 := n4_; clear n0_ n1_ n2_ n3_ n4_; clear ho hb hg hat; have q19 : (x5_1 : Int) ≤ ((l0.length : Int) : Int) := of_decide_eq_true (by first | (with_reducible assumption) | assumption); obtain ⟨i019, hi019, _, hsz19, _⟩ := info_parts info3; have hcut19 := cut_to (P := Try.prog) 29 3 .i64 Try.underlying29 hi019 (some ao_) l0.length co3 x5_1 (of_decide_eq_true (by first | (with_reducible assumption) | assumption)) q19 (Kd.R_reads' HO_0.out).2.1; have hr19 := Kd.R_take (m := (x5_1 : Int).toNat) HO_0.out (by omega); have hy19 : y112.length = (x5_1 : Int).toNat := (by rw [Ny112.out, List.length_take]; omega); rw [← Ny112.out] at hr19; rw [← hy19] at hr19 hcut19; clear hy19 hi019 hsz19 HO_0; have HO114 := Aside0.mk hr19; clear hr19; replace q19 := eq_true q19) | ((with_reducible refine gate_builtin (b := .append) (xs := #[.tmp 29, .tmp 31]) rfl ?_); at_builtin; refine Kd.R_append (Kd.int .i64) (w0 := w0) w0.heap.size rfl (.tmp 29) (.tmp 31) 29 3 (.int .i64 0) 8 rfl Try.underlying29 info3 rfl (by decide) (by omega) (.slice (some ao_) y112.length co3) y112 a1 [.int .i64 a1] (fun k_ => (P0_ k_ ∨ w.heap.size ≤ k_) ∧ some k_ ≠ (v110 : Value).ownBlock) (fun _ => False) rfl rfl ?aP (fun _ hk => hk.elim) ?aF ?aO ?aB ?aS ?aL ?_; (case aP => exact rfl); (case aB => exact (by repeat (first | (with_reducible first | exact HB.out | apply below_alloc | apply pw_below_drewN | apply below_drew1) | exact HB.out))); (case aF => exact (fun k_ hk => ⟨(.inr (Nat.le_trans (by first | exact HK.out.1 | exact (show Kept w _ (fun k_ => P0_ k_) from by repeat (first | (with_reducible first | exact HK.out | apply Kept.alloc | apply Kept.drewN | apply Kept.drew) | exact HK.out)).1) hk)), Kd.fresh' (Kd.R_lt (by (with_reducible repeat (first | apply Kd.R_alloc | apply Kd.R_drewN | apply Kd.R_drew)); exact HO111.out)) k_ hk⟩)); (case aO => exact (by (with_reducible repeat (first | apply Kd.R_alloc | apply Kd.R_drewN | apply Kd.R_drew)); exact HO114.out)); (case aS => exact (below_size (by repeat (first | (with_reducible first | exact HB.out | apply below_alloc | apply pw_below_drewN | apply below_drew1) | exact HB.out)))); (case aL => have := LMc13.out; omega); intro v116 w20 ho hb hg hat; rw [← Ny115.out] at ho; have n0_ := Aside0.mk (Kd.R_after (ok := (fun k_ => (P0_ k_ ∨ w.heap.size ≤ k_))) (by (with_reducible repeat (first | apply Kd.R_alloc | apply Kd.R_drewN | apply Kd.R_drew)); exact HO111.out) hg hat); have n1_ := Aside0.mk (hb); have n2_ := Aside0.mk (Kept.of_grown (S := (fun k_ => P0_ k_)) hg (by repeat (first | (with_reducible first | exact HK.out | apply Kept.alloc | apply Kept.drewN | apply Kept.drew) | exact HK.out)) (fun k_ e_ => (HO114.out.1 k_ e_).1)); have n3_ := Aside0.mk (ho); clear HO111; clear HB; clear HK; clear HO114; have HO111 := n0_; have HB := n1_; have HK := n2_; have HO117 := n3_; clear n0_ n1_ n2_ n3_; clear ho hb hg hat; obtain ⟨Ao22, co22, eo22⟩ := Kd.R_slice HO111.out; subst eo22) | ((with_reducible refine gate_builtin (b := .append) (xs := #[.tmp 32, .tmp 33]) rfl ?_); at_builtin; refine Kd.R_append_rows (Kd.int .i64) (w0 := w0) w0.heap.size rfl (.tmp 32) (.tmp 33) 29 3 (.int .i64 0) 8 rfl Try.underlying29 info3 rfl (by decide) (by omega) v116 y115 y109 _ _ _ (fun k_ => (P0_ k_ ∨ w.heap.size ≤ k_) ∧ some k_ ≠ (.slice Ao22 y109.length co22 : Value).ownBlock) (fun _ => False) rfl rfl ?aO ?aR (fun _ _ h => h) (fun _ h => h.elim) ?aF ?aB ?aS ?aL ?_; (case aR => repeat (first | exact (Kd.R_reads' HO111.out).2.2 | (with_reducible refine Kd.C_alloc ?_ _) | (with_reducible refine Kd.C_drewN ?_ _) | (with_reducible refine Kd.C_drew ?_))); (case aB => exact (by repeat (first | (with_reducible first | exact HB.out | apply below_alloc | apply pw_below_drewN | apply below_drew1) | exact HB.out))); (case aF => exact (fun k_ hk => ⟨(.inr (Nat.le_trans (by first | exact HK.out.1 | exact (show Kept w _ (fun k_ => P0_ k_) from by repeat (first | (with_reducible first | exact HK.out | apply Kept.alloc | apply Kept.drewN | apply Kept.drew) | exact HK.out)).1) hk)), Kd.fresh' (Kd.R_lt (by (with_reducible repeat (first | apply Kd.R_alloc | apply Kd.R_drewN | apply Kd.R_drew)); exact HO111.out)) k_ hk⟩)); (case aO => exact (by (with_reducible repeat (first | apply Kd.R_alloc | apply Kd.R_drewN | apply Kd.R_drew)); exact HO117.out)); (case aS => exact (below_size (by repeat (first | (with_reducible first | exact HB.out | apply below_alloc | apply pw_below_drewN | apply below_drew1) | exact HB.out)))); (case aL => have := LMc14.out; omega); intro v119 w21 ho hb hg hat; rw [← Ny118.out] at ho; have n0_ := Aside0.mk (Kd.R_after (ok := (fun k_ => (P0_ k_ ∨ w.heap.size ≤ k_))) (by (with_reducible repeat (first | apply Kd.R_alloc | apply Kd.R_drewN | apply Kd.R_drew)); exact HO111.out) hg hat); have n1_ := Aside0.mk (hb); have n2_ := Aside0.mk (Kept.of_grown (S := (fun k_ => P0_ k_)) hg (by repeat (first | (with_reducible first | exact HK.out | apply Kept.alloc | apply Kept.drewN | apply Kept.drew) | exact HK.out)) (fun k_ e_ => (HO117.out.1 k_ e_).1)); have n3_ := Aside0.mk (ho); clear HO111; clear HB; clear HK; clear HO117; have HO111 := n0_; have HB := n1_; have HK := n2_; have HO120 := n3_; clear n0_ n1_ n2_ n3_; clear ho hb hg hat))
             go_ret
             exact ⟨_, by first | rfl | (simp [errW_none, errW_some] <;> rfl) | (simp only [← hji5]; first | rfl | (simp [errW_none, errW_some] <;> rfl)) | (simp [*, errW_none, errW_some] <;> rfl), by (with_reducible repeat (first | apply Kd.R_alloc | apply Kd.R_drewN | apply Kd.R_drew)); exact Kd.R_mono HO120.out (fun _ hk => hk.1), by repeat (first | (with_reducible first | exact HB.out | apply below_alloc | apply pw_below_drewN | apply below_drew1) | exact HB.out), by repeat (first | (with_reducible first | exact HK.out | apply Kept.alloc | apply Kept.drewN | apply Kept.drew) | exact HK.out)⟩
            ·rw [if_neg c14] at H
             exact absurd H (by simp)
           ·rw [if_neg c13] at H
            exact absurd H (by simp)
          ·rw [if_neg c11] at H
           exact absurd H (by simp)
         ·rw [if_neg c10] at H
          exact absurd H (by simp)
        ·rw [if_neg c9] at H
         exact absurd H (by simp)
      ·rw [if_neg c7] at H
       exact absurd H (by simp)
     ·rw [if_neg c6] at H
      exact absurd H (by simp)
    ·rw [if_neg c4] at H
     have c4b0 : decide (0 < x5_1) = false := decide_eq_false c4
     clear c4
     obtain ⟨y121, hy121⟩ : ∃ y_ : List Int, y_ = (([] : List Int)) := ⟨_, rfl⟩
     replace H : (if 0 ≤ x5_1 then (if x5_1 ≤ (l0.length : Int) then ((some (l0.drop (x5_1 : Int).toNat : List Int)).bind fun y124 => (if y121.length + y124.length < 17592186044416 then ((some (y121 ++ y124 : List Int)).bind fun y128 => ((some (l0.take (x5_1 : Int).toNat : List Int)).bind fun y131 => (if y131.length < 17592186044416 then ((some (y131 ++ [a1] : List Int)).bind fun y134 => (if y134.length + y128.length < 17592186044416 then (some (y134 ++ y128)) else (none))) else (none)))) else (none))) else (none)) else (none)) = some r := by first | (rw [hy121]; with_reducible exact H) | (have H2_ := (Option.bind_some _ _).symm.trans H; rw [hy121]; with_reducible exact H2_) | (have H2_ := (Option.bind_some _ _).symm.trans H; with_reducible exact H2_) | with_reducible exact H | (rw [hy121]; exact H) | exact H
     have Ny121 := Aside0.mk hy121
     clear hy121
     by_cases c23 : 0 ≤ x5_1
     ·rw [if_pos c23] at H
      have c23b0 := eq_true c23
      have c23b1 : decide (0 ≤ x5_1) = true := decide_eq_true c23
      clear c23
      by_cases c24 : x5_1 ≤ (l0.length : Int)
      ·rw [if_pos c24] at H
       have c24b0 := eq_true c24
       have c24b1 : decide (x5_1 ≤ (l0.length : Int)) = true := decide_eq_true c24
       clear c24
       obtain ⟨y124, hy124⟩ : ∃ y_ : List Int, y_ = (l0.drop (x5_1 : Int).toNat) := ⟨_, rfl⟩
       replace H : (if y121.length + y124.length < 17592186044416 then ((some (y121 ++ y124 : List Int)).bind fun y128 => ((some (l0.take (x5_1 : Int).toNat : List Int)).bind fun y131 => (if y131.length < 17592186044416 then ((some (y131 ++ [a1] : List Int)).bind fun y134 => (if y134.length + y128.length < 17592186044416 then (some (y134 ++ y128)) else (none))) else (none)))) else (none)) = some r := by first | (rw [hy124]; with_reducible exact H) | (have H2_ := (Option.bind_some _ _).symm.trans H; rw [hy124]; with_reducible exact H2_) | (have H2_ := (Option.bind_some _ _).symm.trans H; with_reducible exact H2_) | with_reducible exact H | (rw [hy124]; exact H) | exact H
       have Ny124 := Aside0.mk hy124
       clear hy124
       by_cases c25 : y121.length + y124.length < 17592186044416
       ·rw [if_pos c25] at H
        have LMc25 := Aside0.mk c25
        clear c25
        obtain ⟨y128, hy128⟩ : ∃ y_ : List Int, y_ = (y121 ++ y124) := ⟨_, rfl⟩
        replace H : ((some (l0.take (x5_1 : Int).toNat : List Int)).bind fun y131 => (if y131.length < 17592186044416 then ((some (y131 ++ [a1] : List Int)).bind fun y134 => (if y134.length + y128.length < 17592186044416 then (some (y134 ++ y128)) else (none))) else (none))) = some r := by first | (rw [hy128]; with_reducible exact H) | (have H2_ := (Option.bind_some _ _).symm.trans H; rw [hy128]; with_reducible exact H2_) | (have H2_ := (Option.bind_some _ _).symm.trans H; with_reducible exact H2_) | with_reducible exact H | (rw [hy128]; exact H) | exact H
        have Ny128 := Aside0.mk hy128
        clear hy128
        have c26b0 := eq_true (of_decide_eq_true (by first | (with_reducible assumption) | assumption) : x5_1 ≤ (l0.length : Int))
        obtain ⟨y131, hy131⟩ : ∃ y_ : List Int, y_ = (l0.take (x5_1 : Int).toNat) := ⟨_, rfl⟩
        replace H : (if y131.length < 17592186044416 then ((some (y131 ++ [a1] : List Int)).bind fun y134 => (if y134.length + y128.length < 17592186044416 then (some (y134 ++ y128)) else (none))) else (none)) = some r := by first | (rw [hy131]; with_reducible exact H) | (have H2_ := (Option.bind_some _ _).symm.trans H; rw [hy131]; with_reducible exact H2_) | (have H2_ := (Option.bind_some _ _).symm.trans H; with_reducible exact H2_) | with_reducible exact H | (rw [hy131]; exact H) | exact H
        have Ny131 := Aside0.mk hy131
        clear hy131
        by_cases c27 : y131.length < 17592186044416
        ·rw [if_pos c27] at H
         have LMc27 := Aside0.mk c27
         clear c27
         obtain ⟨y134, hy134⟩ : ∃ y_ : List Int, y_ = (y131 ++ [a1]) := ⟨_, rfl⟩
         replace H : (if y134.length + y128.length < 17592186044416 then (some (y134 ++ y128)) else (none)) = some r := by first | (rw [hy134]; with_reducible exact H) | (have H2_ := (Option.bind_some _ _).symm.trans H; rw [hy134]; with_reducible exact H2_) | (have H2_ := (Option.bind_some _ _).symm.trans H; with_reducible exact H2_) | with_reducible exact H | (rw [hy134]; exact H) | exact H
         have Ny134 := Aside0.mk hy134
         clear hy134
         by_cases c28 : y134.length + y128.length < 17592186044416
         ·rw [if_pos c28] at H
          have LMc28 := Aside0.mk c28
          clear c28
          obtain ⟨y137, hy137⟩ : ∃ y_ : List Int, y_ = (y134 ++ y128) := ⟨_, rfl⟩
          replace H : (some y137) = some r := by first | (rw [hy137]; with_reducible exact H) | (have H2_ := (Option.bind_some _ _).symm.trans H; rw [hy137]; with_reducible exact H2_) | (have H2_ := (Option.bind_some _ _).symm.trans H; with_reducible exact H2_) | with_reducible exact H | (rw [hy137]; exact H) | exact H
          have Ny137 := Aside0.mk hy137
          clear hy137
          obtain rfl := Option.some.inj H
          go_wp2_with (first | ((with_reducible refine gate_dst (N := 22) rfl ?_); refine Kd.R_lit (Kd.int .i64) _ 3 ?hg (N := 22) ?hd (xs := ([] : List Int)) (inner := []) (ok := fun _ => True) (okp := fun _ => True) ?hr ?hp (fun _ hk => hk) trivial (Below.refl _ _) (Nat.le_refl _) (by simp) ?_; (case hd => rfl); (case hg => rfl); (case hr => first | (go_simp; done) | (go_simp; rfl)); (case hp => exact (Reps.none _ _)); intro v122 w29 ho30 hb hg_ hnew_; clear hg_ hnew_; (first | rw [← Ny121.out] at ho30 | (simp only [Int.reduceToNat] at ho30; rw [← Ny121.out] at ho30)); have n0_ := Aside0.mk (Kd.R_elder' (by (with_reducible repeat (first | apply Kd.R_alloc | apply Kd.R_drewN | apply Kd.R_drew)); exact HO_0.out) (Kd.R_base ho30) hb); have n1_ := Aside0.mk (Kd.R_lower (Kd.R_new' (Kd.R_newM (M := fun k_ => (P0_ k_ ∨ w.heap.size ≤ k_)) ho30 (by first | exact HK.out.1 | exact (show Kept w _ (fun k_ => P0_ k_) from by repeat (first | (with_reducible first | exact HK.out | apply Kept.alloc | apply Kept.drewN | apply Kept.drew) | exact HK.out)).1) (fun k_ h_ => .inr h_)) (Kd.R_lt (by (with_reducible repeat (first | apply Kd.R_alloc | apply Kd.R_drewN | apply Kd.R_drew)); exact HO_0.out))) (below_size (by repeat (first | (with_reducible first | exact HB.out | apply below_alloc | apply pw_below_drewN | apply below_drew1) | exact HB.out)))); have n2_ := Aside0.mk (Kept.below (S := (fun k_ => P0_ k_)) (by repeat (first | (with_reducible first | exact HK.out | apply Kept.alloc | apply Kept.drewN | apply Kept.drew) | exact HK.out)) hb); have n3_ := Aside0.mk (below_step (by repeat (first | (with_reducible first | exact HB.out | apply below_alloc | apply pw_below_drewN | apply below_drew1) | exact HB.out)) hb); clear HO_0; clear HK; clear HB; have HO_0 := n0_; have HO123 := n1_; have HK := n2_; have HB := n3_; clear n0_ n1_ n2_ n3_; clear hb ho30; have q31 : (x5_1 : Int) ≤ ((l0.length : Int) : Int) := of_decide_eq_true (by first | (with_reducible assumption) | assumption); obtain ⟨i031, hi031, _, hsz31, _⟩ := info_parts info3; have hroom31 : l0.length ≤ co3 := (Kd.R_reads' HO_0.out).2.1; have hC31 : Kd.C (Kd.int .i64) _ (some ao_) l0.length l0 := (Kd.R_reads' HO_0.out).2.2; have q031 : (0 : Int) ≤ (x5_1 : Int) := of_decide_eq_true (by first | (with_reducible assumption) | assumption); have hcut31 := cut_from (P := Try.prog) 29 3 .i64 Try.underlying29 hi031 1 hsz31 (some ao_) l0.length co3 x5_1 q031 q31; have hr31 := Kd.C_drop (m := (x5_1 : Int).toNat) (c := co3) hC31 (by omega) hroom31; obtain ⟨A31, hA31⟩ : ∃ A1, A1 = (if co3 = (x5_1 : Int).toNat then (some ao_) else ((some ao_) : Option Addr).map (·.add ((x5_1 : Int).toNat * 1))) := ⟨_, rfl⟩; obtain ⟨c31, hc31⟩ : ∃ c1, c1 = co3 - (x5_1 : Int).toNat := ⟨_, rfl⟩; have hy31 : y124.length = l0.length - (x5_1 : Int).toNat := (by rw [Ny124.out, List.length_drop] <;> omega); rw [show (l0).drop (x5_1 : Int).toNat = y124 from Ny124.out.symm] at hr31; replace hr31 : Kd.C (Kd.int .i64) _ A31 y124.length y124 := (by rw [hA31]; exact hr31); rw [← hy31, ← hA31, ← hc31] at hcut31; have HR127 := Aside0.mk hr31; have HC127 := Aside0.mk (show y124.length ≤ c31 from by rw [hy31, hc31]; exact Nat.sub_le_sub_right hroom31 _); clear hr31 hC31 hroom31 hi031 hsz31 hc31; have KY31 := Aside0.mk hy31; have KA31 := Aside0.mk hA31; clear hy31 hA31; have KL31 := Aside0.mk (show (x5_1 : Int).toNat ≤ l0.length from by omega); replace q31 := eq_true q31) | ((with_reducible refine gate_builtin (b := .append) (xs := #[.tmp 22, .tmp 25]) rfl ?_); at_builtin; refine Kd.R_append_rows (Kd.int .i64) (w0 := w0) w0.heap.size rfl (.tmp 22) (.tmp 25) 29 3 (.int .i64 0) 8 rfl Try.underlying29 info3 rfl (by decide) (by omega) v122 y121 y124 _ _ _ (fun k_ => (P0_ k_ ∨ w.heap.size ≤ k_) ∧ some k_ ≠ (.slice (some ao_) l0.length co3 : Value).ownBlock) (fun _ => False) rfl rfl ?aO ?aR (fun _ _ h => h) (fun _ h => h.elim) ?aF ?aB ?aS ?aL ?_; (case aR => repeat (first | exact (by repeat (first | (with_reducible exact HR127.out) | (with_reducible refine Kd.C_alloc ?_ _) | (with_reducible refine Kd.C_drewN ?_ _) | (with_reducible refine Kd.C_drew ?_) | exact HR127.out)) | (with_reducible refine Kd.C_alloc ?_ _) | (with_reducible refine Kd.C_drewN ?_ _) | (with_reducible refine Kd.C_drew ?_))); (case aB => exact (by repeat (first | (with_reducible first | exact HB.out | apply below_alloc | apply pw_below_drewN | apply below_drew1) | exact HB.out))); (case aF => exact (fun k_ hk => ⟨(.inr (Nat.le_trans (by first | exact HK.out.1 | exact (show Kept w _ (fun k_ => P0_ k_) from by repeat (first | (with_reducible first | exact HK.out | apply Kept.alloc | apply Kept.drewN | apply Kept.drew) | exact HK.out)).1) hk)), Kd.fresh' (Kd.R_lt (by (with_reducible repeat (first | apply Kd.R_alloc | apply Kd.R_drewN | apply Kd.R_drew)); exact HO_0.out)) k_ hk⟩)); (case aO => exact (by (with_reducible repeat (first | apply Kd.R_alloc | apply Kd.R_drewN | apply Kd.R_drew)); exact Kd.R_mono HO123.out (fun _ hk => ⟨hk.1.1, hk.2⟩))); (case aS => exact (below_size (by repeat (first | (with_reducible first | exact HB.out | apply below_alloc | apply pw_below_drewN | apply below_drew1) | exact HB.out)))); (case aL => have := LMc25.out; omega); intro v129 w32 ho hb hg hat; rw [← Ny128.out] at ho; have n0_ := Aside0.mk (Kd.R_after (ok := (fun k_ => (P0_ k_ ∨ w.heap.size ≤ k_))) (by (with_reducible repeat (first | apply Kd.R_alloc | apply Kd.R_drewN | apply Kd.R_drew)); exact HO_0.out) hg hat); have n1_ := Aside0.mk (hb); have n2_ := Aside0.mk (Kept.of_grown (S := (fun k_ => P0_ k_)) hg (by repeat (first | (with_reducible first | exact HK.out | apply Kept.alloc | apply Kept.drewN | apply Kept.drew) | exact HK.out)) (fun k_ e_ => (HO123.out.1 k_ e_).1.1)); have n3_ := Aside0.mk ((show Kd.C (Kd.int .i64) w32 A31 y124.length y124 from by rw [Ny124.out, KA31.out]; exact Kd.C_drop (m := (x5_1 : Int).toNat) (c := co3) ((Kd.R_reads' (Kd.R_after (ok := (fun k_ => (P0_ k_ ∨ w.heap.size ≤ k_))) (by (with_reducible repeat (first | apply Kd.R_alloc | apply Kd.R_drewN | apply Kd.R_drew)); exact HO_0.out) hg hat)).2.2) KL31.out ((Kd.R_reads' (Kd.R_after (ok := (fun k_ => (P0_ k_ ∨ w.heap.size ≤ k_))) (by (with_reducible repeat (first | apply Kd.R_alloc | apply Kd.R_drewN | apply Kd.R_drew)); exact HO_0.out) hg hat)).2.1))); have n4_ := Aside0.mk (ho); clear HO_0; clear HB; clear HK; clear HR127; clear HO123; have HO_0 := n0_; have HB := n1_; have HK := n2_; have HR127 := n3_; have HO130 := n4_; clear n0_ n1_ n2_ n3_ n4_; clear ho hb hg hat; have q33 : (x5_1 : Int) ≤ ((l0.length : Int) : Int) := of_decide_eq_true (by first | (with_reducible assumption) | assumption); obtain ⟨i033, hi033, _, hsz33, _⟩ := info_parts info3; have hcut33 := cut_to (P := Try.prog) 29 3 .i64 Try.underlying29 hi033 (some ao_) l0.length co3 x5_1 (of_decide_eq_true (by first | (with_reducible assumption) | assumption)) q33 (Kd.R_reads' HO_0.out).2.1; have hr33 := Kd.R_take (m := (x5_1 : Int).toNat) HO_0.out (by omega); have hy33 : y131.length = (x5_1 : Int).toNat := (by rw [Ny131.out, List.length_take]; omega); rw [← Ny131.out] at hr33; rw [← hy33] at hr33 hcut33; clear hy33 hi033 hsz33 HO_0; have HO133 := Aside0.mk hr33; clear hr33; replace q33 := eq_true q33) | ((with_reducible refine gate_builtin (b := .append) (xs := #[.tmp 29, .tmp 31]) rfl ?_); at_builtin; refine Kd.R_append (Kd.int .i64) (w0 := w0) w0.heap.size rfl (.tmp 29) (.tmp 31) 29 3 (.int .i64 0) 8 rfl Try.underlying29 info3 rfl (by decide) (by omega) (.slice (some ao_) y131.length co3) y131 a1 [.int .i64 a1] (fun k_ => (P0_ k_ ∨ w.heap.size ≤ k_) ∧ some k_ ≠ (v129 : Value).ownBlock) (fun _ => False) rfl rfl ?aP (fun _ hk => hk.elim) ?aF ?aO ?aB ?aS ?aL ?_; (case aP => exact rfl); (case aB => exact (by repeat (first | (with_reducible first | exact HB.out | apply below_alloc | apply pw_below_drewN | apply below_drew1) | exact HB.out))); (case aF => exact (fun k_ hk => ⟨(.inr (Nat.le_trans (by first | exact HK.out.1 | exact (show Kept w _ (fun k_ => P0_ k_) from by repeat (first | (with_reducible first | exact HK.out | apply Kept.alloc | apply Kept.drewN | apply Kept.drew) | exact HK.out)).1) hk)), Kd.fresh' (Kd.R_lt (by (with_reducible repeat (first | apply Kd.R_alloc | apply Kd.R_drewN | apply Kd.R_drew)); exact HO130.out)) k_ hk⟩)); (case aO => exact (by (with_reducible repeat (first | apply Kd.R_alloc | apply Kd.R_drewN | apply Kd.R_drew)); exact HO133.out)); (case aS => exact (below_size (by repeat (first | (with_reducible first | exact HB.out | apply below_alloc | apply pw_below_drewN | apply below_drew1) | exact HB.out)))); (case aL => have := LMc27.out; omega); intro v135 w34 ho hb hg hat; rw [← Ny134.out] at ho; have n0_ := Aside0.mk (Kd.R_after (ok := (fun k_ => (P0_ k_ ∨ w.heap.size ≤ k_))) (by (with_reducible repeat (first | apply Kd.R_alloc | apply Kd.R_drewN | apply Kd.R_drew)); exact HO130.out) hg hat); have n1_ := Aside0.mk (hb); have n2_ := Aside0.mk (Kept.of_grown (S := (fun k_ => P0_ k_)) hg (by repeat (first | (with_reducible first | exact HK.out | apply Kept.alloc | apply Kept.drewN | apply Kept.drew) | exact HK.out)) (fun k_ e_ => (HO133.out.1 k_ e_).1)); have n3_ := Aside0.mk (ho); clear HO130; clear HB; clear HK; clear HO133; have HO130 := n0_; have HB := n1_; have HK := n2_; have HO136 := n3_; clear n0_ n1_ n2_ n3_; clear ho hb hg hat; obtain ⟨Ao36, co36, eo36⟩ := Kd.R_slice HO130.out; subst eo36) | ((with_reducible refine gate_builtin (b := .append) (xs := #[.tmp 32, .tmp 33]) rfl ?_); at_builtin; refine Kd.R_append_rows (Kd.int .i64) (w0 := w0) w0.heap.size rfl (.tmp 32) (.tmp 33) 29 3 (.int .i64 0) 8 rfl Try.underlying29 info3 rfl (by decide) (by omega) v135 y134 y128 _ _ _ (fun k_ => (P0_ k_ ∨ w.heap.size ≤ k_) ∧ some k_ ≠ (.slice Ao36 y128.length co36 : Value).ownBlock) (fun _ => False) rfl rfl ?aO ?aR (fun _ _ h => h) (fun _ h => h.elim) ?aF ?aB ?aS ?aL ?_; (case aR => repeat (first | exact (Kd.R_reads' HO130.out).2.2 | (with_reducible refine Kd.C_alloc ?_ _) | (with_reducible refine Kd.C_drewN ?_ _) | (with_reducible refine Kd.C_drew ?_))); (case aB => exact (by repeat (first | (with_reducible first | exact HB.out | apply below_alloc | apply pw_below_drewN | apply below_drew1) | exact HB.out))); (case aF => exact (fun k_ hk => ⟨(.inr (Nat.le_trans (by first | exact HK.out.1 | exact (show Kept w _ (fun k_ => P0_ k_) from by repeat (first | (with_reducible first | exact HK.out | apply Kept.alloc | apply Kept.drewN | apply Kept.drew) | exact HK.out)).1) hk)), Kd.fresh' (Kd.R_lt (by (with_reducible repeat (first | apply Kd.R_alloc | apply Kd.R_drewN | apply Kd.R_drew)); exact HO130.out)) k_ hk⟩)); (case aO => exact (by (with_reducible repeat (first | apply Kd.R_alloc | apply Kd.R_drewN | apply Kd.R_drew)); exact HO136.out)); (case aS => exact (below_size (by repeat (first | (with_reducible first | exact HB.out | apply below_alloc | apply pw_below_drewN | apply below_drew1) | exact HB.out)))); (case aL => have := LMc28.out; omega); intro v138 w35 ho hb hg hat; rw [← Ny137.out] at ho; have n0_ := Aside0.mk (Kd.R_after (ok := (fun k_ => (P0_ k_ ∨ w.heap.size ≤ k_))) (by (with_reducible repeat (first | apply Kd.R_alloc | apply Kd.R_drewN | apply Kd.R_drew)); exact HO130.out) hg hat); have n1_ := Aside0.mk (hb); have n2_ := Aside0.mk (Kept.of_grown (S := (fun k_ => P0_ k_)) hg (by repeat (first | (with_reducible first | exact HK.out | apply Kept.alloc | apply Kept.drewN | apply Kept.drew) | exact HK.out)) (fun k_ e_ => (HO136.out.1 k_ e_).1)); have n3_ := Aside0.mk (ho); clear HO130; clear HB; clear HK; clear HO136; have HO130 := n0_; have HB := n1_; have HK := n2_; have HO139 := n3_; clear n0_ n1_ n2_ n3_; clear ho hb hg hat))
          go_ret
          exact ⟨_, by first | rfl | (simp [errW_none, errW_some] <;> rfl) | (simp [*, errW_none, errW_some] <;> rfl), by (with_reducible repeat (first | apply Kd.R_alloc | apply Kd.R_drewN | apply Kd.R_drew)); exact Kd.R_mono HO139.out (fun _ hk => hk.1), by repeat (first | (with_reducible first | exact HB.out | apply below_alloc | apply pw_below_drewN | apply below_drew1) | exact HB.out), by repeat (first | (with_reducible first | exact HK.out | apply Kept.alloc | apply Kept.drewN | apply Kept.drew) | exact HK.out)⟩
         ·rw [if_neg c28] at H
          exact absurd H (by simp)
        ·rw [if_neg c27] at H
         exact absurd H (by simp)
       ·rw [if_neg c25] at H
        exact absurd H (by simp)
      ·rw [if_neg c24] at H
       exact absurd H (by simp)
     ·rw [if_neg c23] at H
      exact absurd H (by simp)

end Go.Proofs.Ytldcckcljjlglaa.P

namespace Go.Proofs.Ytldcckcljjlglaa.Pure
open Go.RowKit Go.Proofs.Ytldcckcljjlglaa.P Go.Proofs.YtldcckcljjlglaaW.PrintWords Go.Proofs.YtldcckcljjlglaaW.PrintLast Go.Proofs.Ytldcckcljjlglaa.Com
set_option linter.unusedSimpArgs false
set_option linter.unusedVariables false
/-- The place behind the last of the first n that is not above x. -/
def putN (s : List Int) (x : Int) : Nat → Nat
  | 0 => 0
  | n + 1 => if s.getD n 0 > x then putN s x n else n + 1
def putL (s : List Int) (x : Int) : List Int := s.take (putN s x s.length) ++ [x] ++ s.drop (putN s x s.length)
theorem putN_le (s : List Int) (x : Int) (n : Nat) : putN s x n ≤ n := by
  induction n with
  | zero => exact Nat.le_refl _
  | succ n ih =>
    simp only [putN]
    split <;> omega
theorem putN_spec (s : List Int) (x : Int) (n : Nat) : (∀ j, putN s x n ≤ j → j < n → x < s.getD j 0) ∧ (0 < putN s x n → s.getD (putN s x n - 1) 0 ≤ x) := by
  induction n with
  | zero => exact ⟨fun j _ h => by omega, fun h => by simp [putN] at h⟩
  | succ n ih =>
    simp only [putN]
    split
    · rename_i h
      refine ⟨fun j h1 h2 => ?_, ih.2⟩
      by_cases hj : j = n
      · subst hj; exact h
      · exact ih.1 j h1 (by omega)
    · rename_i h
      exact ⟨fun j h1 h2 => by omega, fun _ => by simpa using h⟩
theorem putL_length (s : List Int) (x : Int) : (putL s x).length = s.length + 1 := by
  have := putN_le s x s.length
  simp only [putL, List.length_append, List.length_take, List.length_drop, List.length_singleton]; omega
theorem putL_perm (s : List Int) (x : Int) : (putL s x).Perm (x :: s) := by
  unfold putL
  have h : (s.take (putN s x s.length) ++ [x] ++ s.drop (putN s x s.length)).Perm (x :: (s.take (putN s x s.length) ++ s.drop (putN s x s.length))) := by
    rw [List.append_assoc]
    exact List.perm_middle
  rwa [List.take_append_drop] at h
theorem putL_sorted (s : List Int) (x : Int) (h : s.Pairwise (· ≤ ·)) : (putL s x).Pairwise (· ≤ ·) := by
  have hle := putN_le s x s.length
  obtain ⟨h1, h2⟩ := putN_spec s x s.length
  unfold putL
  generalize putN s x s.length = a at hle h1 h2
  have hg : ∀ i j (hi : i < s.length) (hj : j < s.length), i ≤ j → s[i] ≤ s[j] := by
    intro i j hi hj hij
    rcases Nat.lt_or_eq_of_le hij with hij | rfl
    · exact (List.pairwise_iff_getElem.1 h) i j hi hj hij
    · exact Int.le_refl _
  have ht : ∀ u ∈ s.take a, u ≤ x := by
    intro u hu
    obtain ⟨j, hj, rfl⟩ := List.mem_iff_getElem.1 hu
    rw [List.length_take] at hj
    have h3 := h2 (by omega)
    rw [List.getD_eq_getElem?_getD, List.getElem?_eq_getElem (show a - 1 < s.length by omega), Option.getD_some] at h3
    rw [List.getElem_take]
    exact Int.le_trans (hg j (a - 1) (by omega) (by omega) (by omega)) h3
  have hd : ∀ v ∈ s.drop a, x < v := by
    intro v hv
    obtain ⟨j, hj, rfl⟩ := List.mem_iff_getElem.1 hv
    rw [List.length_drop] at hj
    have h3 := h1 (a + j) (by omega) (by omega)
    rw [List.getD_eq_getElem?_getD, List.getElem?_eq_getElem (show a + j < s.length by omega), Option.getD_some] at h3
    rw [List.getElem_drop]
    exact h3
  rw [List.pairwise_append, List.pairwise_append]
  refine ⟨⟨h.sublist (List.take_sublist _ _), List.pairwise_singleton _ _, fun u hu v hv => ?_⟩, h.sublist (List.drop_sublist _ _), fun u hu v hv => ?_⟩
  · rw [List.mem_singleton.1 hv]; exact ht u hu
  · have := hd v hv
    rcases List.mem_append.1 hu with hu | hu
    · have := ht u hu; omega
    · rw [List.mem_singleton.1 hu]; omega
theorem puts_sorted (L : List Int) : ∀ s : List Int, s.Pairwise (· ≤ ·) → (L.foldl putL s).Pairwise (· ≤ ·) ∧ (L.foldl putL s).Perm (L ++ s) := by
  induction L with
  | nil => exact fun s h => ⟨h, List.Perm.refl _⟩
  | cons x L ih =>
    intro s h
    obtain ⟨h1, h2⟩ := ih (putL s x) (putL_sorted s x h)
    refine ⟨h1, h2.trans ?_⟩
    exact ((List.Perm.append_left L (putL_perm s x)).trans List.perm_middle)
/-- Numbers that are put one by one are sorted. -/
theorem puts_eq (L : List Int) : L.foldl putL [] = L.mergeSort fun x y => decide (x ≤ y) := by
  obtain ⟨h1, h2⟩ := puts_sorted L [] List.Pairwise.nil
  rw [List.append_nil] at h2
  refine List.Perm.eq_of_pairwise (le := fun x y => decide (x ≤ y)) ?_ (h1.imp (fun h => by simpa using h)) (List.pairwise_mergeSort (le := fun x y => decide (x ≤ y)) (fun a b c h h' => by simp at *; omega) (fun a b => by simp; omega) L) (h2.trans (List.mergeSort_perm L _).symm)
  intro a b _ _ h3 h4
  simp at h3 h4
  omega
theorem l16Put_l0 (s : List Int) (x : Int) (hs : s.length ≤ 1048576) (n : Nat) : n ≤ s.length → Ev (fun k => spec_l16Put.l0 k s x (n : Int)) (s.take (putN s x n) ++ [x] ++ s.drop (putN s x n)) := by
  have out : ∀ m : Nat, m ≤ s.length → (s.take m ++ [x]).length + (([] : List Int) ++ s.drop m).length < 17592186044416 := by
    intro m hm
    simp only [List.length_append, List.length_take, List.length_drop, List.length_singleton, List.length_nil]; omega
  have out2 : ∀ m : Nat, m ≤ s.length → (s.take m).length < 17592186044416 ∧ ([] : List Int).length + (s.drop m).length < 17592186044416 := by
    intro m hm
    simp only [List.length_take, List.length_drop, List.length_nil]; omega
  induction n with
  | zero =>
    intro _
    refine Ev.step (f := fun _ => some (s.take 0 ++ [x] ++ s.drop 0)) (fun k => ?_) (Ev.now _)
    simp only [spec_l16Put.l0, Option.bind_some]
    have h1 := out 0 (by omega)
    have h2 := out2 0 (by omega)
    rw [if_neg (by omega), if_pos (by omega), if_pos (by omega)]
    simp only [Int.toNat_natCast]
    rw [if_pos h2.2, if_pos h2.1, if_pos h1]
    simp
  | succ n ih =>
    intro hn
    have hw : wrap64 (((n + 1 : Nat) : Int) - 1) = (n : Int) := by rw [w64 (by omega) (by omega)]; omega
    by_cases h : s.getD n 0 > x
    · refine Ev.step (f := fun k => spec_l16Put.l0 k s x (n : Int)) (fun k => ?_) ?_
      · simp only [spec_l16Put.l0, hw]
        rw [if_pos (by omega), if_pos (by omega), if_pos (by omega), if_pos (show rd s (n : Int) > x from h)]
      · simp only [putN]
        rw [if_pos h]
        exact ih (by omega)
    · refine Ev.step (f := fun _ => some (s.take (n + 1) ++ [x] ++ s.drop (n + 1))) (fun k => ?_) ?_
      · have h1 := out (n + 1) hn
        have h2 := out2 (n + 1) hn
        simp only [spec_l16Put.l0, hw, Option.bind_some]
        rw [if_pos (by omega), if_pos (by omega), if_pos (by omega), if_neg (show ¬ rd s (n : Int) > x from h), if_pos (by omega), if_pos (by omega)]
        simp only [Int.toNat_natCast]
        rw [if_pos h2.2, if_pos h2.1, if_pos h1]
        simp
      · simp only [putN]
        rw [if_neg h]
        exact Ev.now _
theorem l16Put_ev (s : List Int) (x : Int) (hs : s.length ≤ 1048576) : Ev (fun k => spec_l16Put.f k s x) (putL s x) := l16Put_l0 s x hs s.length (Nat.le_refl _)
/-- A round that puts a number into the row. -/
def putT {τ ρ : Type} (g : τ → Int) : List Int → τ → (List Int → ρ → Prop) → ρ → Prop := fun s t C r => s.length < 1000000 ∧ C (putL s (g t)) r
theorem putT_mono {τ ρ : Type} (g : τ → Int) : MonoT (putT (ρ := ρ) g) := fun s t C D r h hT => ⟨hT.1, h _ _ hT.2⟩
theorem putT_fold {τ ρ : Type} (g : τ → Int) (C : List Int → ρ → Prop) (L : List τ) : ∀ s r, s.length + L.length ≤ 1000000 → C ((L.map g).foldl putL s) r → foldT (putT g) C L s r := by
  induction L with
  | nil => intro s r _ h; exact h
  | cons t L ih =>
    intro s r hb h
    simp only [List.length_cons] at hb
    exact ⟨by omega, ih _ _ (by rw [putL_length]; omega) h⟩
end Go.Proofs.Ytldcckcljjlglaa.Pure

namespace Go.Proofs.Ytldcckcljjlglaa.P
open Go.RowKit Go.Proofs.YtldcckcljjlglaaW.PrintWords Go.Proofs.YtldcckcljjlglaaW.PrintLast Go.Proofs.YtldcckcljjlglaaW.PrintMore
attribute [local go_sem] max2_int min2_int max_two min_two max_three min_three max_four min_four   -- for this text's walks alone
set_option linter.unusedVariables false
set_option linter.unusedSimpArgs false

/-! ### spec_MeetingRow: function 44 -/
def spec_MeetingRow.l0 : Nat → List Int → List (List Int) → Int → Option (List Int)
 | 0, _, _, _ => none
 | k + 1, x3, x4, x5 => if x5 < (x4.length : Int) then (if 0 ≤ x5 then (if 3 < ((rd_L6 x4 x5).length : Int) then ((spec_l16Put.f k x3 (rd (rd_L6 x4 x5) 3)).bind fun t110 => (spec_MeetingRow.l0 k t110 x4 (wrap64 (x5 + 1)))) else (none)) else (none)) else (some x3)
def spec_MeetingRow.f (k : Nat) (l0 : List (S40)) : Option (List Int) := (some (([] : List Int) : List Int)).bind fun y101 => ((spec_AreLines.f k l0).bind fun t104 => (if t104 = true then ((spec_l24Points.f k l0).bind fun t105 => (spec_MeetingRow.l0 k y101 t105 0)) else (some y101)))
theorem spec_MeetingRow.mono_l : ∀ k, (∀ y0 y1 y2, LeO (spec_MeetingRow.l0 k y0 y1 y2) (spec_MeetingRow.l0 (k + 1) y0 y1 y2))
 | 0 => fun _ _ _ r h => by simp [spec_MeetingRow.l0] at h
 | k + 1 => by
  have ih0 := spec_MeetingRow.mono_l k
  ·intro y0 y1 y2
   unfold spec_MeetingRow.l0
   repeat' first
   | (with_reducible exact ih0 _ _ _)
   | (with_reducible exact spec_AreLines.mono _ _)
   | (with_reducible exact spec_l16Put.mono _ _ _)
   | (with_reducible exact spec_l24Points.mono _ _)
   | (with_reducible exact LeO.refl _)
   | (with_reducible exact LeO.none _)
   | (with_reducible refine LeO.ite ?_ ?_)
   | (with_reducible refine LeO.bind ?_ (fun _ => ?_))
   | exact ih0 _ _ _
   | exact spec_AreLines.mono _ _
   | exact spec_l16Put.mono _ _ _
   | exact spec_l24Points.mono _ _
   | exact LeO.none _
   | refine LeO.ite ?_ ?_
   | refine LeO.bind ?_ (fun _ => ?_)
theorem spec_MeetingRow.mono : ∀ a0 k, LeO (spec_MeetingRow.f k a0) (spec_MeetingRow.f (k + 1) a0) := by
 intro a0 k
 have ih0 := spec_MeetingRow.mono_l k
 unfold spec_MeetingRow.f
 repeat' first
   | (with_reducible exact ih0 _ _ _)
   | (with_reducible exact spec_AreLines.mono _ _)
   | (with_reducible exact spec_l16Put.mono _ _ _)
   | (with_reducible exact spec_l24Points.mono _ _)
   | (with_reducible exact LeO.refl _)
   | (with_reducible exact LeO.none _)
   | (with_reducible refine LeO.ite ?_ ?_)
   | (with_reducible refine LeO.bind ?_ (fun _ => ?_))
   | exact ih0 _ _ _
   | exact spec_AreLines.mono _ _
   | exact spec_l16Put.mono _ _ _
   | exact spec_l24Points.mono _ _
   | exact LeO.none _
   | refine LeO.ite ?_ ?_
   | refine LeO.bind ?_ (fun _ => ?_)
set_option maxHeartbeats 8000000 in
set_option maxRecDepth 100000 in
theorem spec_MeetingRow.calls (k : Nat) (A0 : Option Addr) (c0 : Nat) (l0 : List (S40)) (r : List Int) (w : World) (hr0 : Kd.C k40 w A0 l0.length l0) (hc0 : l0.length ≤ c0) (h : spec_MeetingRow.f k l0 = some r) :
  Calls Try.prog 44 #[.slice A0 l0.length c0] w fun e w' => ∃ v0_ : Value, e = .returned (v0_) ∧ Kd.R (Kd.int .i64) 3 w' w.heap.size (fun _ => True) v0_ r ∧ Below w.heap.size w w' := by
 have HR0 := Aside0.mk hr0
 have HC0 := Aside0.mk hc0
 clear hr0 hc0
 have HB := Aside0.mk (Below.refl w.heap.size w)
 have H : ((some (([] : List Int) : List Int)).bind fun y101 => ((spec_AreLines.f k l0).bind fun t104 => (if t104 = true then ((spec_l24Points.f k l0).bind fun t105 => (spec_MeetingRow.l0 k y101 t105 0)) else (some y101)))) = some r := h
 clear h
 obtain ⟨y101, hy101⟩ : ∃ y_ : List Int, y_ = (([] : List Int)) := ⟨_, rfl⟩
 replace H : ((spec_AreLines.f k l0).bind fun t104 => (if t104 = true then ((spec_l24Points.f k l0).bind fun t105 => (spec_MeetingRow.l0 k y101 t105 0)) else (some y101))) = some r := by first | (rw [hy101]; with_reducible exact H) | (have H2_ := (Option.bind_some _ _).symm.trans H; rw [hy101]; with_reducible exact H2_) | (have H2_ := (Option.bind_some _ _).symm.trans H; with_reducible exact H2_) | with_reducible exact H | (rw [hy101]; exact H) | exact H
 have Ny101 := Aside0.mk hy101
 clear hy101
 replace H := Option.bind_eq_some_iff.mp H
 obtain ⟨t104, A20, H⟩ := H
 replace H : (if t104 = true then ((spec_l24Points.f k l0).bind fun t105 => (spec_MeetingRow.l0 k y101 t105 0)) else (some y101)) = some r := H
 have A2 := Aside0.mk A20
 clear A20
 by_cases c3 : t104 = true
 ·subst c3
  have H1 : ((spec_l24Points.f k l0).bind fun t105 => (spec_MeetingRow.l0 k y101 t105 0)) = some r := by rw [if_pos rfl] at H; exact H
  clear H
  have H := H1
  clear H1
  replace H := Option.bind_eq_some_iff.mp H
  obtain ⟨t105, A40, H⟩ := H
  replace H : (spec_MeetingRow.l0 k y101 t105 0) = some r := H
  have A4 := Aside0.mk A40
  clear A40
  have H' := Aside0.mk H
  clear H
  go_enter Try.func44, Try.ntmps44
  go_wp2_with (first | ((with_reducible refine gate_dst (N := 6) rfl ?_); refine Kd.R_lit (Kd.int .i64) _ 3 ?hg (N := 6) ?hd (xs := ([] : List Int)) (inner := []) (ok := fun _ => True) (okp := fun _ => True) ?hr ?hp (fun _ hk => hk) trivial (Below.refl _ _) (Nat.le_refl _) (by simp) ?_; (case hd => rfl); (case hg => rfl); (case hr => first | (go_simp; done) | (go_simp; rfl)); (case hp => exact (Reps.none _ _)); intro v102 w5 ho6 hb hg_ hnew_; clear hg_ hnew_; (first | rw [← Ny101.out] at ho6 | (simp only [Int.reduceToNat] at ho6; rw [← Ny101.out] at ho6)); have n0_ := Aside0.mk (Kd.R_lower ho6 (below_size (by repeat (first | (with_reducible first | exact HB.out | apply below_alloc | apply pw_below_drewN | apply below_drew1) | exact HB.out)))); have n1_ := Aside0.mk (below_step (by repeat (first | (with_reducible first | exact HB.out | apply below_alloc | apply pw_below_drewN | apply below_drew1) | exact HB.out)) hb); clear HB; have HO103 := n0_; have HB := n1_; clear n0_ n1_; clear hb ho6) | ((with_reducible refine gate_callee (f := 53) rfl ?_); refine goesL_ (some 8) rfl rfl Try.func53 (by kernel_rfl) rfl #[.slice A0 l0.length c0] rfl (by (try simp only [List.map_toArray, List.map_cons, List.map_nil]); first | done | rfl | (simp only [List.length_drop, List.length_take]; rfl)) ?_; (with_reducible refine (spec_AreLines.calls k _ _ l0 true _ ?side1 ?side2 A2.out).mono ?_); (case side1 => repeat (first | exact (Kd.C_below HR0.out HB.out) | (with_reducible refine Kd.C_alloc ?_ _) | (with_reducible refine Kd.C_drewN ?_ _) | (with_reducible refine Kd.C_drew ?_))); (case side2 => exact HC0.out); rintro e w7 ⟨rfl, hb⟩; refine ⟨_, rfl, ?_⟩; have n0_ := Aside0.mk (Kd.R_below (by (with_reducible repeat (first | apply Kd.R_alloc | apply Kd.R_drewN | apply Kd.R_drew)); exact HO103.out) hb); have n1_ := Aside0.mk (below_step (by repeat (first | (with_reducible first | exact HB.out | apply below_alloc | apply pw_below_drewN | apply below_drew1) | exact HB.out)) hb); clear HO103; clear HB; have HO103 := n0_; have HB := n1_; clear n0_ n1_; (try clear hb); (try clear hb2); (try clear hk); (try clear hi)) | ((with_reducible refine gate_callee (f := 92) rfl ?_); refine goesL_ (some 12) rfl rfl Try.func92 (by kernel_rfl) rfl #[.slice A0 l0.length c0] rfl (by (try simp only [List.map_toArray, List.map_cons, List.map_nil]); first | done | rfl | (simp only [List.length_drop, List.length_take]; rfl)) ?_; (with_reducible refine (spec_l24Points.calls k _ _ l0 t105 _ ?side1 ?side2 A4.out).mono ?_); (case side1 => repeat (first | exact (Kd.C_below HR0.out HB.out) | (with_reducible refine Kd.C_alloc ?_ _) | (with_reducible refine Kd.C_drewN ?_ _) | (with_reducible refine Kd.C_drew ?_))); (case side2 => exact HC0.out); rintro e w8 ⟨v106, rfl, ho0, hb⟩; refine ⟨_, rfl, ?_⟩; have n0_ := Aside0.mk (Kd.R_below (by (with_reducible repeat (first | apply Kd.R_alloc | apply Kd.R_drewN | apply Kd.R_drew)); exact HO103.out) hb); have n1_ := Aside0.mk (Kd.S_lower (Kd.S_new' ho0 (Kd.R_lt (by (with_reducible repeat (first | apply Kd.R_alloc | apply Kd.R_drewN | apply Kd.R_drew)); exact HO103.out))) (below_size (by repeat (first | (with_reducible first | exact HB.out | apply below_alloc | apply pw_below_drewN | apply below_drew1) | exact HB.out)))); have n2_ := Aside0.mk (below_step (by repeat (first | (with_reducible first | exact HB.out | apply below_alloc | apply pw_below_drewN | apply below_drew1) | exact HB.out)) hb); clear HO103; clear HB; have HO103 := n0_; have HO107 := n1_; have HB := n2_; clear n0_ n1_ n2_; (try clear hb); (try clear hb2); (try clear hk); (try clear hi); (try clear ho0)))
  go_loopg [3, 5] k (fun kq v3 v5 w' => ∃ (x3_1 : List Int) (x5_1 : Int), v5 = .int .i64 x5_1 ∧ Aside0 (spec_MeetingRow.l0 kq x3_1 t105 x5_1 = some r) ∧ Aside0 (kq ≤ k) ∧ Aside0 (Kd.R (Kd.int .i64) 3 w' w.heap.size (fun _ => True) v3 x3_1) ∧ Aside0 (Kd.S (Kd.slice 3 (Kd.int .i64)) 29 w' w.heap.size (fun k_ => some k_ ≠ (v3 : Value).ownBlock) v106 t105) ∧ Aside0 (Below w.heap.size w w'))
  case atStart => exact ⟨(y101), (0), (by first | rfl | (simp; done) | (simp [*]; done)), H', ⟨Nat.le_refl _⟩, ⟨by (with_reducible repeat (first | apply Kd.R_alloc | apply Kd.R_drewN | apply Kd.R_drew)); exact HO103.out⟩, ⟨by (with_reducible repeat (first | apply Kd.S_alloc | apply Kd.S_drewN | apply Kd.S_drew)); exact Kd.S_mono HO107.out (fun _ hk => hk.2)⟩, ⟨by repeat (first | (with_reducible first | exact HB.out | apply below_alloc | apply pw_below_drewN | apply below_drew1) | exact HB.out)⟩⟩
  case round =>
   clear H'
   try clear p2
   try clear c3
   try clear c4
   try clear c5
   obtain ⟨x3_1, x5_1, rfl, HA, HK1, HO_3, HO_4, HB⟩ := hrel
   cases gk with
   | zero => exact absurd HA.out (by simp [spec_MeetingRow.l0])
   | succ k1 =>
    have H := HA.out
    clear HA
    simp only [spec_MeetingRow.l0] at H
    by_cases c9 : x5_1 < (t105.length : Int)
    ·rw [if_pos c9] at H
     have c9b0 : decide (x5_1 < (t105.length : Int)) = true := decide_eq_true c9
     clear c9
     by_cases c10 : 0 ≤ x5_1
     ·rw [if_pos c10] at H
      have c10b0 : decide (0 ≤ x5_1) = true := decide_eq_true c10
      clear c10
      by_cases c11 : 3 < ((rd_L6 t105 x5_1).length : Int)
      ·rw [if_pos c11] at H
       have c11b0 : decide (3 < ((rd_L6 t105 x5_1).length : Int)) = true := decide_eq_true c11
       have c11b1 : decide (3 < (rd_L6 t105 x5_1).length) = true := decide_eq_true (by omega)
       clear c11
       replace H := Option.bind_eq_some_iff.mp H
       obtain ⟨t110, A120, H⟩ := H
       replace H : (spec_MeetingRow.l0 k1 t110 t105 (wrap64 (x5_1 + 1))) = some r := H
       have A12 := Aside0.mk A120
       clear A120
       have H' := Aside0.mk H
       clear H
       obtain ⟨Ao13, co13, eo13⟩ := Kd.S_slice HO_4.out
       subst eo13
       have p108 : 0 ≤ (x5_1 : Int) := of_decide_eq_true (by first | (with_reducible assumption) | assumption)
       have q108 : x5_1 < (t105.length : Int) := of_decide_eq_true (by first | (with_reducible assumption) | assumption)
       obtain ⟨ad108, A108_0, c108_0, e108, hx108_0, hl108_0, hi108_0⟩ := at_L6 (Kd.S_reads' HO_4.out).2.2 x5_1 p108 q108
       cases e108
       obtain ⟨ce108, hce108, hMe108, hcc108⟩ := Kd.S_get HO_4.out [] x5_1 p108 (by first | exact q108 | exact of_decide_eq_true (by first | (with_reducible assumption) | assumption) | (have e_ := (Kd.S_reads' HO_4.out).1; omega))
       obtain ⟨ve108_0, rfl, ge108_0⟩ := hMe108
       have hv108_0 := hcc108 0 _ rfl
       rw [Nat.add_zero, show ((Kd.slice 3 (Kd.int .i64))).sz = 1 from rfl, Nat.mul_one] at hv108_0
       replace hv108_0 := Option.some.inj (hv108_0.symm.trans hx108_0)
       rw [hv108_0] at ge108_0
       have HL108_0 := Aside0.mk (show Kd.R (Kd.int .i64) 3 _ _ _ _ (rd_L6 t105 x5_1) from ge108_0)
       clear hv108_0 ge108_0
       clear hcc108 hce108
       have HR108_0 := Aside0.mk hi108_0
       have HC108_0 := Aside0.mk hl108_0
       clear hi108_0 hl108_0
       replace p108 := eq_true p108
       replace q108 := eq_true q108
       have p109 : 0 ≤ (3 : Int) := (by omega)
       have q109 : 3 < ((rd_L6 t105 x5_1).length : Int) := of_decide_eq_true (by first | (with_reducible assumption) | assumption)
       obtain ⟨ad109, e109, hx109_0⟩ := Kd.at_int (by repeat (first | (with_reducible exact HR108_0.out) | (with_reducible refine Kd.C_alloc ?_ _) | (with_reducible refine Kd.C_drewN ?_ _) | (with_reducible refine Kd.C_drew ?_) | exact HR108_0.out)) 3 p109 q109
       cases e109
       (try simp only [show (3 : Int).toNat = 3 from rfl, Nat.reduceMul, Nat.reduceEqDiff, Go.Addr.add, ↓reduceIte] at hx109_0)
       have qi109 : (3 < (rd_L6 t105 x5_1).length) = True := eq_true (by omega)
       (try rw [show ((3 : Int)).toNat = 3 from rfl] at hx109_0)
       replace p109 := eq_true p109
       replace q109 := eq_true q109
       obtain ⟨Ao14, co14, eo14⟩ := Kd.R_slice HO_3.out
       subst eo14
       go_wp2_with (first | ((with_reducible refine gate_callee (f := 112) rfl ?_); refine goesL_ (some 26) rfl rfl Try.func112 (by kernel_rfl) rfl #[.slice Ao14 x3_1.length co14, .int .i64 (rd (rd_L6 t105 x5_1) 3)] rfl (by (try simp only [List.map_toArray, List.map_cons, List.map_nil]); first | done | rfl | (simp only [List.length_drop, List.length_take]; rfl)) ?_; (with_reducible refine (spec_l16Put.calls k1 (fun k_ => some k_ = (.slice Ao14 x3_1.length co14 : Value).ownBlock) (.slice Ao14 x3_1.length co14) x3_1 (rd (rd_L6 t105 x5_1) 3) t110 w _ ?side1 ?side2 A12.out).mono ?_); (case side1 => repeat (first | (with_reducible first | exact HB.out | apply below_alloc | apply pw_below_drewN | apply below_drew1) | exact HB.out)); (case side2 => exact Kd.R_tight rfl HO_3.out); rintro e w15 ⟨v111, rfl, ho0, hb, hkp⟩; refine ⟨_, rfl, ?_⟩; have n0_ := Aside0.mk (Kd.S_mono (ok' := fun k_ => some k_ ≠ (v111 : Value).ownBlock) (Kd.S_keptB (HO_4.out) hkp (fun k_ hk_ hs_ => (hk_) hs_)) (fun k_ hk_ => fun e_ => Or.elim (ho0.1 k_ e_.symm) (fun hs_ => hk_.2.1 hs_) (fun hn_ => Nat.not_le.2 hk_.2.2 hn_))); have n1_ := Aside0.mk (Kd.R_mono (ok' := fun k_ => True) ho0 (fun k_ hk_ => trivial)); have n2_ := Aside0.mk (hb); clear HO_4; clear HB; clear HO_3; clear HL108_0; have HO_4 := n0_; have HO112 := n1_; have HB := n2_; clear n0_ n1_ n2_; (try clear hb); (try clear hkp); (try clear ho0)))
       go_roundg k1
       case measure => have := HK1.out; omega
       case rel => exact ⟨(t110), (wrap64 (x5_1 + 1)), (by first | rfl | (simp; done) | (simp [*]; done)), H', ⟨by have := HK1.out; omega⟩, ⟨by (with_reducible repeat (first | apply Kd.R_alloc | apply Kd.R_drewN | apply Kd.R_drew)); exact HO112.out⟩, ⟨by (with_reducible repeat (first | apply Kd.S_alloc | apply Kd.S_drewN | apply Kd.S_drew)); exact HO_4.out⟩, ⟨by repeat (first | (with_reducible first | exact HB.out | apply below_alloc | apply pw_below_drewN | apply below_drew1) | exact HB.out)⟩⟩
      ·rw [if_neg c11] at H
       exact absurd H (by simp)
     ·rw [if_neg c10] at H
      exact absurd H (by simp)
    ·rw [if_neg c9] at H
     have c9b0 : decide (x5_1 < (t105.length : Int)) = false := decide_eq_false c9
     clear c9
     obtain rfl := Option.some.inj H
     obtain ⟨Ao16, co16, eo16⟩ := Kd.S_slice HO_4.out
     subst eo16
     go_wp2
     go_ret
     exact ⟨_, by first | rfl | (simp [errW_none, errW_some] <;> rfl) | (simp [*, errW_none, errW_some] <;> rfl), by (with_reducible repeat (first | apply Kd.R_alloc | apply Kd.R_drewN | apply Kd.R_drew)); exact HO_3.out, by repeat (first | (with_reducible first | exact HB.out | apply below_alloc | apply pw_below_drewN | apply below_drew1) | exact HB.out)⟩
 ·replace c3 := Bool.eq_false_iff.mpr c3
  subst c3
  have H1 : (some y101) = some r := by rw [if_neg (show ¬ (false = true) by decide)] at H; exact H
  clear H
  have H := H1
  clear H1
  obtain rfl := Option.some.inj H
  go_enter Try.func44, Try.ntmps44
  go_wp2_with (first | ((with_reducible refine gate_dst (N := 6) rfl ?_); refine Kd.R_lit (Kd.int .i64) _ 3 ?hg (N := 6) ?hd (xs := ([] : List Int)) (inner := []) (ok := fun _ => True) (okp := fun _ => True) ?hr ?hp (fun _ hk => hk) trivial (Below.refl _ _) (Nat.le_refl _) (by simp) ?_; (case hd => rfl); (case hg => rfl); (case hr => first | (go_simp; done) | (go_simp; rfl)); (case hp => exact (Reps.none _ _)); intro v102 w17 ho18 hb hg_ hnew_; clear hg_ hnew_; (first | rw [← Ny101.out] at ho18 | (simp only [Int.reduceToNat] at ho18; rw [← Ny101.out] at ho18)); have n0_ := Aside0.mk (Kd.R_lower ho18 (below_size (by repeat (first | (with_reducible first | exact HB.out | apply below_alloc | apply pw_below_drewN | apply below_drew1) | exact HB.out)))); have n1_ := Aside0.mk (below_step (by repeat (first | (with_reducible first | exact HB.out | apply below_alloc | apply pw_below_drewN | apply below_drew1) | exact HB.out)) hb); clear HB; have HO103 := n0_; have HB := n1_; clear n0_ n1_; clear hb ho18) | ((with_reducible refine gate_callee (f := 53) rfl ?_); refine goesL_ (some 8) rfl rfl Try.func53 (by kernel_rfl) rfl #[.slice A0 l0.length c0] rfl (by (try simp only [List.map_toArray, List.map_cons, List.map_nil]); first | done | rfl | (simp only [List.length_drop, List.length_take]; rfl)) ?_; (with_reducible refine (spec_AreLines.calls k _ _ l0 false _ ?side1 ?side2 A2.out).mono ?_); (case side1 => repeat (first | exact (Kd.C_below HR0.out HB.out) | (with_reducible refine Kd.C_alloc ?_ _) | (with_reducible refine Kd.C_drewN ?_ _) | (with_reducible refine Kd.C_drew ?_))); (case side2 => exact HC0.out); rintro e w19 ⟨rfl, hb⟩; refine ⟨_, rfl, ?_⟩; have n0_ := Aside0.mk (Kd.R_below (by (with_reducible repeat (first | apply Kd.R_alloc | apply Kd.R_drewN | apply Kd.R_drew)); exact HO103.out) hb); have n1_ := Aside0.mk (below_step (by repeat (first | (with_reducible first | exact HB.out | apply below_alloc | apply pw_below_drewN | apply below_drew1) | exact HB.out)) hb); clear HO103; clear HB; have HO103 := n0_; have HB := n1_; clear n0_ n1_; (try clear hb); (try clear hb2); (try clear hk); (try clear hi)))
  go_ret
  exact ⟨_, by first | rfl | (simp [errW_none, errW_some] <;> rfl) | (simp [*, errW_none, errW_some] <;> rfl), by (with_reducible repeat (first | apply Kd.R_alloc | apply Kd.R_drewN | apply Kd.R_drew)); exact HO103.out, by repeat (first | (with_reducible first | exact HB.out | apply below_alloc | apply pw_below_drewN | apply below_drew1) | exact HB.out)⟩

end Go.Proofs.Ytldcckcljjlglaa.P

namespace Go.Proofs.Ytldcckcljjlglaa.P
open Go.RowKit Go.Proofs.YtldcckcljjlglaaW.PrintWords Go.Proofs.YtldcckcljjlglaaW.PrintLast Go.Proofs.YtldcckcljjlglaaW.PrintMore
attribute [local go_sem] max2_int min2_int max_two min_two max_three min_three max_four min_four   -- for this text's walks alone
set_option linter.unusedVariables false
set_option linter.unusedSimpArgs false

/-! ### spec_l24Rest: function 97 -/
def spec_l24Rest.l0 : Nat → Int → List Int → Int → Option (Int)
 | 0, _, _, _ => none
 | k + 1, x3, x4, x5 => if x5 < (x4.length : Int) then (if 0 ≤ x5 then (spec_l24Rest.l0 k (wrap64 ((wrap64 (x3 + (rd x4 x5))) - 1)) x4 (wrap64 (x5 + 1))) else (none)) else (some x3)
def spec_l24Rest.f (k : Nat) (l0 : List (S40)) : Option (Int) := (spec_MeetingRow.f k l0).bind fun t101 => (spec_l24Rest.l0 k 0 t101 0)
theorem spec_l24Rest.mono_l : ∀ k, (∀ y0 y1 y2, LeO (spec_l24Rest.l0 k y0 y1 y2) (spec_l24Rest.l0 (k + 1) y0 y1 y2))
 | 0 => fun _ _ _ r h => by simp [spec_l24Rest.l0] at h
 | k + 1 => by
  have ih0 := spec_l24Rest.mono_l k
  ·intro y0 y1 y2
   unfold spec_l24Rest.l0
   repeat' first
   | (with_reducible exact ih0 _ _ _)
   | (with_reducible exact spec_MeetingRow.mono _ _)
   | (with_reducible exact LeO.refl _)
   | (with_reducible exact LeO.none _)
   | (with_reducible refine LeO.ite ?_ ?_)
   | (with_reducible refine LeO.bind ?_ (fun _ => ?_))
   | exact ih0 _ _ _
   | exact spec_MeetingRow.mono _ _
   | exact LeO.none _
   | refine LeO.ite ?_ ?_
   | refine LeO.bind ?_ (fun _ => ?_)
theorem spec_l24Rest.mono : ∀ a0 k, LeO (spec_l24Rest.f k a0) (spec_l24Rest.f (k + 1) a0) := by
 intro a0 k
 have ih0 := spec_l24Rest.mono_l k
 unfold spec_l24Rest.f
 repeat' first
   | (with_reducible exact ih0 _ _ _)
   | (with_reducible exact spec_MeetingRow.mono _ _)
   | (with_reducible exact LeO.refl _)
   | (with_reducible exact LeO.none _)
   | (with_reducible refine LeO.ite ?_ ?_)
   | (with_reducible refine LeO.bind ?_ (fun _ => ?_))
   | exact ih0 _ _ _
   | exact spec_MeetingRow.mono _ _
   | exact LeO.none _
   | refine LeO.ite ?_ ?_
   | refine LeO.bind ?_ (fun _ => ?_)
set_option maxHeartbeats 8000000 in
set_option maxRecDepth 100000 in
theorem spec_l24Rest.calls (k : Nat) (A0 : Option Addr) (c0 : Nat) (l0 : List (S40)) (r : Int) (w : World) (hr0 : Kd.C k40 w A0 l0.length l0) (hc0 : l0.length ≤ c0) (h : spec_l24Rest.f k l0 = some r) :
  Calls Try.prog 97 #[.slice A0 l0.length c0] w fun e w' => e = .returned (.int .i64 r) ∧ Below w.heap.size w w' := by
 have HR0 := Aside0.mk hr0
 have HC0 := Aside0.mk hc0
 clear hr0 hc0
 have HB := Aside0.mk (Below.refl w.heap.size w)
 have H : ((spec_MeetingRow.f k l0).bind fun t101 => (spec_l24Rest.l0 k 0 t101 0)) = some r := h
 clear h
 replace H := Option.bind_eq_some_iff.mp H
 obtain ⟨t101, A20, H⟩ := H
 replace H : (spec_l24Rest.l0 k 0 t101 0) = some r := H
 have A2 := Aside0.mk A20
 clear A20
 have H' := Aside0.mk H
 clear H
 go_enter Try.func97, Try.ntmps97
 go_wp2_with (first | ((with_reducible refine gate_callee (f := 44) rfl ?_); refine goesL_ (some 7) rfl rfl Try.func44 (by kernel_rfl) rfl #[.slice A0 l0.length c0] rfl (by (try simp only [List.map_toArray, List.map_cons, List.map_nil]); first | done | rfl | (simp only [List.length_drop, List.length_take]; rfl)) ?_; (with_reducible refine (spec_MeetingRow.calls k _ _ l0 t101 _ ?side1 ?side2 A2.out).mono ?_); (case side1 => repeat (first | exact HR0.out | (with_reducible refine Kd.C_alloc ?_ _) | (with_reducible refine Kd.C_drewN ?_ _) | (with_reducible refine Kd.C_drew ?_))); (case side2 => exact HC0.out); rintro e w3 ⟨v102, rfl, ho0, hb⟩; refine ⟨_, rfl, ?_⟩; have n0_ := Aside0.mk (Kd.R_lower ho0 (below_size (by repeat (first | (with_reducible first | exact HB.out | apply below_alloc | apply pw_below_drewN | apply below_drew1) | exact HB.out)))); have n1_ := Aside0.mk (below_step (by repeat (first | (with_reducible first | exact HB.out | apply below_alloc | apply pw_below_drewN | apply below_drew1) | exact HB.out)) hb); clear HB; have HO103 := n0_; have HB := n1_; clear n0_ n1_; (try clear hb); (try clear hb2); (try clear hk); (try clear hi); (try clear ho0)))
 go_loopg [3, 5] k (fun kq v3 v5 w' => ∃ (x3_1 : Int) (x5_1 : Int), v3 = .int .i64 x3_1 ∧ v5 = .int .i64 x5_1 ∧ Aside0 (spec_l24Rest.l0 kq x3_1 t101 x5_1 = some r) ∧ Aside0 (kq ≤ k) ∧ Aside0 (Kd.R (Kd.int .i64) 3 w' w.heap.size (fun _ => True) v102 t101) ∧ Aside0 (Below w.heap.size w w'))
 case atStart => exact ⟨(0), (0), (by first | rfl | (simp; done) | (simp [*]; done)), (by first | rfl | (simp; done) | (simp [*]; done)), H', ⟨Nat.le_refl _⟩, ⟨by (with_reducible repeat (first | apply Kd.R_alloc | apply Kd.R_drewN | apply Kd.R_drew)); exact HO103.out⟩, ⟨by repeat (first | (with_reducible first | exact HB.out | apply below_alloc | apply pw_below_drewN | apply below_drew1) | exact HB.out)⟩⟩
 case round =>
  clear H'
  try clear p2
  obtain ⟨x3_1, x5_1, rfl, rfl, HA, HK1, HO_4, HB⟩ := hrel
  cases gk with
  | zero => exact absurd HA.out (by simp [spec_l24Rest.l0])
  | succ k1 =>
   have H := HA.out
   clear HA
   simp only [spec_l24Rest.l0] at H
   by_cases c4 : x5_1 < (t101.length : Int)
   ·rw [if_pos c4] at H
    have c4b0 : decide (x5_1 < (t101.length : Int)) = true := decide_eq_true c4
    clear c4
    by_cases c5 : 0 ≤ x5_1
    ·rw [if_pos c5] at H
     have c5b0 : decide (0 ≤ x5_1) = true := decide_eq_true c5
     clear c5
     have H' := Aside0.mk H
     clear H
     obtain ⟨Ao6, co6, eo6⟩ := Kd.R_slice HO_4.out
     subst eo6
     have p104 : 0 ≤ (x5_1 : Int) := of_decide_eq_true (by first | (with_reducible assumption) | assumption)
     have q104 : x5_1 < (t101.length : Int) := of_decide_eq_true (by first | (with_reducible assumption) | assumption)
     obtain ⟨ad104, e104, hx104_0⟩ := Kd.at_int (Kd.R_reads' HO_4.out).2.2 x5_1 p104 q104
     cases e104
     replace p104 := eq_true p104
     replace q104 := eq_true q104
     go_wp2
     go_roundg k1
     case measure => have := HK1.out; omega
     case rel => exact ⟨(wrap64 ((wrap64 (x3_1 + (rd t101 x5_1))) - 1)), (wrap64 (x5_1 + 1)), (by first | rfl | (simp; done) | (simp [*]; done)), (by first | rfl | (simp; done) | (simp [*]; done)), H', ⟨by have := HK1.out; omega⟩, ⟨by (with_reducible repeat (first | apply Kd.R_alloc | apply Kd.R_drewN | apply Kd.R_drew)); exact HO_4.out⟩, ⟨by repeat (first | (with_reducible first | exact HB.out | apply below_alloc | apply pw_below_drewN | apply below_drew1) | exact HB.out)⟩⟩
    ·rw [if_neg c5] at H
     exact absurd H (by simp)
   ·rw [if_neg c4] at H
    have c4b0 : decide (x5_1 < (t101.length : Int)) = false := decide_eq_false c4
    clear c4
    obtain rfl := Option.some.inj H
    obtain ⟨Ao7, co7, eo7⟩ := Kd.R_slice HO_4.out
    subst eo7
    go_wp2
    go_ret
    exact ⟨by first | rfl | (simp [errW_none, errW_some] <;> rfl) | (simp [*, errW_none, errW_some] <;> rfl), by repeat (first | (with_reducible first | exact HB.out | apply below_alloc | apply pw_below_drewN | apply below_drew1) | exact HB.out)⟩

end Go.Proofs.Ytldcckcljjlglaa.P

namespace Go.Proofs.Ytldcckcljjlglaa.P
open Go.RowKit Go.Proofs.YtldcckcljjlglaaW.PrintWords Go.Proofs.YtldcckcljjlglaaW.PrintLast Go.Proofs.YtldcckcljjlglaaW.PrintMore
attribute [local go_sem] max2_int min2_int max_two min_two max_three min_three max_four min_four   -- for this text's walks alone
set_option linter.unusedVariables false
set_option linter.unusedSimpArgs false

/-! ### impl_excess: function 96 -/
def impl_excess.l0 : Nat → Int → List Int → Int → Int → Option (Int)
 | 0, _, _, _, _ => none
 | k + 1, x3, x7, x8, x9 => if x9 < x8 then (if 0 ≤ x9 then (if x9 < (x7.length : Int) then (impl_excess.l0 k (wrap64 ((wrap64 (x3 + (rd x7 x9))) - 1)) x7 x8 (wrap64 (x9 + 1))) else (none)) else (none)) else (some x3)
def impl_excess.f (k : Nat) (l0 : List (S40)) : Option (Int) := (impl_MeetingRow.f k l0).bind fun t101 => (impl_excess.l0 k 0 t101 (t101.length : Int) 0)
theorem impl_excess.mono_l : ∀ k, (∀ y0 y1 y2 y3, LeO (impl_excess.l0 k y0 y1 y2 y3) (impl_excess.l0 (k + 1) y0 y1 y2 y3))
 | 0 => fun _ _ _ _ r h => by simp [impl_excess.l0] at h
 | k + 1 => by
  have ih0 := impl_excess.mono_l k
  ·intro y0 y1 y2 y3
   unfold impl_excess.l0
   repeat' first
   | (with_reducible exact ih0 _ _ _ _)
   | (with_reducible exact impl_MeetingRow.mono _ _)
   | (with_reducible exact LeO.refl _)
   | (with_reducible exact LeO.none _)
   | (with_reducible refine LeO.ite ?_ ?_)
   | (with_reducible refine LeO.bind ?_ (fun _ => ?_))
   | exact ih0 _ _ _ _
   | exact impl_MeetingRow.mono _ _
   | exact LeO.none _
   | refine LeO.ite ?_ ?_
   | refine LeO.bind ?_ (fun _ => ?_)
theorem impl_excess.mono : ∀ a0 k, LeO (impl_excess.f k a0) (impl_excess.f (k + 1) a0) := by
 intro a0 k
 have ih0 := impl_excess.mono_l k
 unfold impl_excess.f
 repeat' first
   | (with_reducible exact ih0 _ _ _ _)
   | (with_reducible exact impl_MeetingRow.mono _ _)
   | (with_reducible exact LeO.refl _)
   | (with_reducible exact LeO.none _)
   | (with_reducible refine LeO.ite ?_ ?_)
   | (with_reducible refine LeO.bind ?_ (fun _ => ?_))
   | exact ih0 _ _ _ _
   | exact impl_MeetingRow.mono _ _
   | exact LeO.none _
   | refine LeO.ite ?_ ?_
   | refine LeO.bind ?_ (fun _ => ?_)
set_option maxHeartbeats 8000000 in
set_option maxRecDepth 100000 in
theorem impl_excess.calls (k : Nat) (A0 : Option Addr) (c0 : Nat) (l0 : List (S40)) (r : Int) (w : World) (hr0 : Kd.C k40 w A0 l0.length l0) (hc0 : l0.length ≤ c0) (h : impl_excess.f k l0 = some r) :
  Calls Try.prog 96 #[.slice A0 l0.length c0] w fun e w' => e = .returned (.int .i64 r) ∧ Below w.heap.size w w' := by
 have HR0 := Aside0.mk hr0
 have HC0 := Aside0.mk hc0
 clear hr0 hc0
 have HB := Aside0.mk (Below.refl w.heap.size w)
 have H : ((impl_MeetingRow.f k l0).bind fun t101 => (impl_excess.l0 k 0 t101 (t101.length : Int) 0)) = some r := h
 clear h
 replace H := Option.bind_eq_some_iff.mp H
 obtain ⟨t101, A20, H⟩ := H
 replace H : (impl_excess.l0 k 0 t101 (t101.length : Int) 0) = some r := H
 have A2 := Aside0.mk A20
 clear A20
 have H' := Aside0.mk H
 clear H
 go_enter Try.func96, Try.ntmps96
 go_wp2_with (first | ((with_reducible refine gate_callee (f := 36) rfl ?_); refine goesL_ (some 7) rfl rfl Try.func36 (by kernel_rfl) rfl #[.slice A0 l0.length c0] rfl (by (try simp only [List.map_toArray, List.map_cons, List.map_nil]); first | done | rfl | (simp only [List.length_drop, List.length_take]; rfl)) ?_; (with_reducible refine (impl_MeetingRow.calls k _ _ l0 t101 _ ?side1 ?side2 A2.out).mono ?_); (case side1 => repeat (first | exact HR0.out | (with_reducible refine Kd.C_alloc ?_ _) | (with_reducible refine Kd.C_drewN ?_ _) | (with_reducible refine Kd.C_drew ?_))); (case side2 => exact HC0.out); rintro e w3 ⟨v102, rfl, ho0, hb⟩; refine ⟨_, rfl, ?_⟩; have n0_ := Aside0.mk (Kd.R_lower ho0 (below_size (by repeat (first | (with_reducible first | exact HB.out | apply below_alloc | apply pw_below_drewN | apply below_drew1) | exact HB.out)))); have n1_ := Aside0.mk (below_step (by repeat (first | (with_reducible first | exact HB.out | apply below_alloc | apply pw_below_drewN | apply below_drew1) | exact HB.out)) hb); clear HB; have HO103 := n0_; have HB := n1_; clear n0_ n1_; (try clear hb); (try clear hb2); (try clear hk); (try clear hi); (try clear ho0); obtain ⟨Ao4, co4, eo4⟩ := Kd.R_slice HO103.out; subst eo4))
 go_loopg [3, 9] k (fun kq v3 v9 w' => ∃ (x3_1 : Int) (x9_1 : Int), v3 = .int .i64 x3_1 ∧ v9 = .int .i64 x9_1 ∧ Aside0 (impl_excess.l0 kq x3_1 t101 (t101.length : Int) x9_1 = some r) ∧ Aside0 (kq ≤ k) ∧ Aside0 (Kd.R (Kd.int .i64) 3 w' w.heap.size (fun _ => True) (.slice Ao4 t101.length co4) t101) ∧ Aside0 (Below w.heap.size w w'))
 case atStart => exact ⟨(0), (0), (by first | rfl | (simp; done) | (simp [*]; done)), (by first | rfl | (simp; done) | (simp [*]; done)), H', ⟨Nat.le_refl _⟩, ⟨by (with_reducible repeat (first | apply Kd.R_alloc | apply Kd.R_drewN | apply Kd.R_drew)); exact HO103.out⟩, ⟨by repeat (first | (with_reducible first | exact HB.out | apply below_alloc | apply pw_below_drewN | apply below_drew1) | exact HB.out)⟩⟩
 case round =>
  clear H'
  try clear p2
  try clear c3
  obtain ⟨x3_1, x9_1, rfl, rfl, HA, HK1, HO_7, HB⟩ := hrel
  cases gk with
  | zero => exact absurd HA.out (by simp [impl_excess.l0])
  | succ k1 =>
   have H := HA.out
   clear HA
   simp only [impl_excess.l0] at H
   by_cases c5 : x9_1 < (t101.length : Int)
   ·rw [if_pos c5] at H
    have c5b0 : decide (x9_1 < (t101.length : Int)) = true := decide_eq_true c5
    clear c5
    by_cases c6 : 0 ≤ x9_1
    ·rw [if_pos c6] at H
     have c6b0 : decide (0 ≤ x9_1) = true := decide_eq_true c6
     clear c6
     by_cases c7 : x9_1 < (t101.length : Int)
     ·rw [if_pos c7] at H
      have c7b0 : decide (x9_1 < (t101.length : Int)) = true := decide_eq_true c7
      clear c7
      have H' := Aside0.mk H
      clear H
      have p104 : 0 ≤ (x9_1 : Int) := of_decide_eq_true (by first | (with_reducible assumption) | assumption)
      have q104 : x9_1 < (t101.length : Int) := of_decide_eq_true (by first | (with_reducible assumption) | assumption)
      obtain ⟨ad104, e104, hx104_0⟩ := Kd.at_int (Kd.R_reads' HO_7.out).2.2 x9_1 p104 q104
      cases e104
      replace p104 := eq_true p104
      replace q104 := eq_true q104
      go_wp2
      go_roundg k1
      case measure => have := HK1.out; omega
      case rel => exact ⟨(wrap64 ((wrap64 (x3_1 + (rd t101 x9_1))) - 1)), (wrap64 (x9_1 + 1)), (by first | rfl | (simp; done) | (simp [*]; done)), (by first | rfl | (simp; done) | (simp [*]; done)), H', ⟨by have := HK1.out; omega⟩, ⟨by (with_reducible repeat (first | apply Kd.R_alloc | apply Kd.R_drewN | apply Kd.R_drew)); exact HO_7.out⟩, ⟨by repeat (first | (with_reducible first | exact HB.out | apply below_alloc | apply pw_below_drewN | apply below_drew1) | exact HB.out)⟩⟩
     ·rw [if_neg c7] at H
      exact absurd H (by simp)
    ·rw [if_neg c6] at H
     exact absurd H (by simp)
   ·rw [if_neg c5] at H
    have c5b0 : decide (x9_1 < (t101.length : Int)) = false := decide_eq_false c5
    clear c5
    obtain rfl := Option.some.inj H
    go_wp2
    go_ret
    exact ⟨by first | rfl | (simp [errW_none, errW_some] <;> rfl) | (simp [*, errW_none, errW_some] <;> rfl), by repeat (first | (with_reducible first | exact HB.out | apply below_alloc | apply pw_below_drewN | apply below_drew1) | exact HB.out)⟩

end Go.Proofs.Ytldcckcljjlglaa.P

namespace Go.Proofs.Ytldcckcljjlglaa.P
open Go.RowKit Go.Proofs.YtldcckcljjlglaaW.PrintWords Go.Proofs.YtldcckcljjlglaaW.PrintLast Go.Proofs.YtldcckcljjlglaaW.PrintMore
attribute [local go_sem] max2_int min2_int max_two min_two max_three min_three max_four min_four   -- for this text's walks alone
set_option linter.unusedVariables false
set_option linter.unusedSimpArgs false

/-! ### spec_LinePoly: function 32 -/
def spec_LinePoly.f (k : Nat) (l0 : List (S40)) : Option (List Int) := (spec_AreLines.f k l0).bind fun t101 => (if t101 = true then ((spec_l24Rest.f k l0).bind fun t102 => (some (([t102, wrap64 (-(l0.length : Int)), 1] : List Int)))) else (some (([] : List Int))))
theorem spec_LinePoly.mono : ∀ a0 k, LeO (spec_LinePoly.f k a0) (spec_LinePoly.f (k + 1) a0) := by
 intro a0 k
 unfold spec_LinePoly.f
 repeat' first
   | (with_reducible exact spec_AreLines.mono _ _)
   | (with_reducible exact spec_l24Rest.mono _ _)
   | (with_reducible exact LeO.refl _)
   | (with_reducible exact LeO.none _)
   | (with_reducible refine LeO.ite ?_ ?_)
   | (with_reducible refine LeO.bind ?_ (fun _ => ?_))
   | exact spec_AreLines.mono _ _
   | exact spec_l24Rest.mono _ _
   | exact LeO.none _
   | refine LeO.ite ?_ ?_
   | refine LeO.bind ?_ (fun _ => ?_)
set_option maxHeartbeats 8000000 in
set_option maxRecDepth 100000 in
theorem spec_LinePoly.calls (k : Nat) (A0 : Option Addr) (c0 : Nat) (l0 : List (S40)) (r : List Int) (w : World) (hr0 : Kd.C k40 w A0 l0.length l0) (hc0 : l0.length ≤ c0) (h : spec_LinePoly.f k l0 = some r) :
  Calls Try.prog 32 #[.slice A0 l0.length c0] w fun e w' => ∃ v0_ : Value, e = .returned (v0_) ∧ Kd.R (Kd.int .i64) 3 w' w.heap.size (fun _ => True) v0_ r ∧ Below w.heap.size w w' := by
 have HR0 := Aside0.mk hr0
 have HC0 := Aside0.mk hc0
 clear hr0 hc0
 have HB := Aside0.mk (Below.refl w.heap.size w)
 have H : ((spec_AreLines.f k l0).bind fun t101 => (if t101 = true then ((spec_l24Rest.f k l0).bind fun t102 => (some (([t102, wrap64 (-(l0.length : Int)), 1] : List Int)))) else (some (([] : List Int))))) = some r := h
 clear h
 replace H := Option.bind_eq_some_iff.mp H
 obtain ⟨t101, A20, H⟩ := H
 replace H : (if t101 = true then ((spec_l24Rest.f k l0).bind fun t102 => (some (([t102, wrap64 (-(l0.length : Int)), 1] : List Int)))) else (some (([] : List Int)))) = some r := H
 have A2 := Aside0.mk A20
 clear A20
 by_cases c3 : t101 = true
 ·subst c3
  have H1 : ((spec_l24Rest.f k l0).bind fun t102 => (some (([t102, wrap64 (-(l0.length : Int)), 1] : List Int)))) = some r := by rw [if_pos rfl] at H; exact H
  clear H
  have H := H1
  clear H1
  replace H := Option.bind_eq_some_iff.mp H
  obtain ⟨t102, A40, H⟩ := H
  replace H : (some (([t102, wrap64 (-(l0.length : Int)), 1] : List Int))) = some r := H
  have A4 := Aside0.mk A40
  clear A40
  obtain ⟨y103, hy103⟩ : ∃ y_ : List Int, y_ = (([t102, wrap64 (-(l0.length : Int)), 1] : List Int)) := ⟨_, rfl⟩
  replace H : (some y103) = some r := by first | (rw [hy103]; with_reducible exact H) | (have H2_ := (Option.bind_some _ _).symm.trans H; rw [hy103]; with_reducible exact H2_) | (have H2_ := (Option.bind_some _ _).symm.trans H; with_reducible exact H2_) | with_reducible exact H | (rw [hy103]; exact H) | exact H
  have Ny103 := Aside0.mk hy103
  clear hy103
  obtain rfl := Option.some.inj H
  go_enter Try.func32, Try.ntmps32
  go_wp2_with (first | ((with_reducible refine gate_callee (f := 53) rfl ?_); refine goesL_ (some 4) rfl rfl Try.func53 (by kernel_rfl) rfl #[.slice A0 l0.length c0] rfl (by (try simp only [List.map_toArray, List.map_cons, List.map_nil]); first | done | rfl | (simp only [List.length_drop, List.length_take]; rfl)) ?_; (with_reducible refine (spec_AreLines.calls k _ _ l0 true _ ?side1 ?side2 A2.out).mono ?_); (case side1 => repeat (first | exact HR0.out | (with_reducible refine Kd.C_alloc ?_ _) | (with_reducible refine Kd.C_drewN ?_ _) | (with_reducible refine Kd.C_drew ?_))); (case side2 => exact HC0.out); rintro e w5 ⟨rfl, hb⟩; refine ⟨_, rfl, ?_⟩; have n0_ := Aside0.mk (below_step (by repeat (first | (with_reducible first | exact HB.out | apply below_alloc | apply pw_below_drewN | apply below_drew1) | exact HB.out)) hb); clear HB; have HB := n0_; clear n0_; (try clear hb); (try clear hb2); (try clear hk); (try clear hi)) | ((with_reducible refine gate_callee (f := 97) rfl ?_); refine goesL_ (some 8) rfl rfl Try.func97 (by kernel_rfl) rfl #[.slice A0 l0.length c0] rfl (by (try simp only [List.map_toArray, List.map_cons, List.map_nil]); first | done | rfl | (simp only [List.length_drop, List.length_take]; rfl)) ?_; (with_reducible refine (spec_l24Rest.calls k _ _ l0 t102 _ ?side1 ?side2 A4.out).mono ?_); (case side1 => repeat (first | exact (Kd.C_below HR0.out HB.out) | (with_reducible refine Kd.C_alloc ?_ _) | (with_reducible refine Kd.C_drewN ?_ _) | (with_reducible refine Kd.C_drew ?_))); (case side2 => exact HC0.out); rintro e w6 ⟨rfl, hb⟩; refine ⟨_, rfl, ?_⟩; have n0_ := Aside0.mk (below_step (by repeat (first | (with_reducible first | exact HB.out | apply below_alloc | apply pw_below_drewN | apply below_drew1) | exact HB.out)) hb); clear HB; have HB := n0_; clear n0_; (try clear hb); (try clear hb2); (try clear hk); (try clear hi)) | ((with_reducible refine gate_dst (N := 12) rfl ?_); refine Kd.R_lit (Kd.int .i64) _ 3 ?hg (N := 12) ?hd (xs := ([t102, wrap64 (-(l0.length : Int)), 1] : List Int)) (inner := [.int .i64 t102, .int .i64 (wrap64 (-(l0.length : Int))), .int .i64 1]) (ok := fun _ => True) (okp := fun _ => True) ?hr ?hp (fun _ hk => hk) trivial (Below.refl _ _) (Nat.le_refl _) (by simp) ?_; (case hd => rfl); (case hg => rfl); (case hr => first | (go_simp; done) | (go_simp; rfl)); (case hp => exact (Reps.one (show Kd.M (Kd.int .i64) _ _ _ t102 [.int .i64 t102] from rfl) (Reps.one (show Kd.M (Kd.int .i64) _ _ _ (wrap64 (-(l0.length : Int))) [.int .i64 (wrap64 (-(l0.length : Int)))] from rfl) (Reps.one (show Kd.M (Kd.int .i64) _ _ _ 1 [.int .i64 1] from rfl) (Reps.none _ _))))); intro v104 w7 ho8 hb hg_ hnew_; clear hg_ hnew_; (first | rw [← Ny103.out] at ho8 | (simp only [Int.reduceToNat] at ho8; rw [← Ny103.out] at ho8)); have n0_ := Aside0.mk (Kd.R_lower ho8 (below_size (by repeat (first | (with_reducible first | exact HB.out | apply below_alloc | apply pw_below_drewN | apply below_drew1) | exact HB.out)))); have n1_ := Aside0.mk (below_step (by repeat (first | (with_reducible first | exact HB.out | apply below_alloc | apply pw_below_drewN | apply below_drew1) | exact HB.out)) hb); clear HB; have HO105 := n0_; have HB := n1_; clear n0_ n1_; clear hb ho8))
  go_ret
  exact ⟨_, by first | rfl | (simp [errW_none, errW_some] <;> rfl) | (simp [*, errW_none, errW_some] <;> rfl), by (with_reducible repeat (first | apply Kd.R_alloc | apply Kd.R_drewN | apply Kd.R_drew)); exact HO105.out, by repeat (first | (with_reducible first | exact HB.out | apply below_alloc | apply pw_below_drewN | apply below_drew1) | exact HB.out)⟩
 ·replace c3 := Bool.eq_false_iff.mpr c3
  subst c3
  have H1 : (some (([] : List Int))) = some r := by rw [if_neg (show ¬ (false = true) by decide)] at H; exact H
  clear H
  have H := H1
  clear H1
  obtain ⟨y106, hy106⟩ : ∃ y_ : List Int, y_ = (([] : List Int)) := ⟨_, rfl⟩
  replace H : (some y106) = some r := by first | (rw [hy106]; with_reducible exact H) | (have H2_ := (Option.bind_some _ _).symm.trans H; rw [hy106]; with_reducible exact H2_) | (have H2_ := (Option.bind_some _ _).symm.trans H; with_reducible exact H2_) | with_reducible exact H | (rw [hy106]; exact H) | exact H
  have Ny106 := Aside0.mk hy106
  clear hy106
  obtain rfl := Option.some.inj H
  go_enter Try.func32, Try.ntmps32
  go_wp2_with (first | ((with_reducible refine gate_callee (f := 53) rfl ?_); refine goesL_ (some 4) rfl rfl Try.func53 (by kernel_rfl) rfl #[.slice A0 l0.length c0] rfl (by (try simp only [List.map_toArray, List.map_cons, List.map_nil]); first | done | rfl | (simp only [List.length_drop, List.length_take]; rfl)) ?_; (with_reducible refine (spec_AreLines.calls k _ _ l0 false _ ?side1 ?side2 A2.out).mono ?_); (case side1 => repeat (first | exact HR0.out | (with_reducible refine Kd.C_alloc ?_ _) | (with_reducible refine Kd.C_drewN ?_ _) | (with_reducible refine Kd.C_drew ?_))); (case side2 => exact HC0.out); rintro e w9 ⟨rfl, hb⟩; refine ⟨_, rfl, ?_⟩; have n0_ := Aside0.mk (below_step (by repeat (first | (with_reducible first | exact HB.out | apply below_alloc | apply pw_below_drewN | apply below_drew1) | exact HB.out)) hb); clear HB; have HB := n0_; clear n0_; (try clear hb); (try clear hb2); (try clear hk); (try clear hi)) | ((with_reducible refine gate_dst (N := 6) rfl ?_); refine Kd.R_lit (Kd.int .i64) _ 3 ?hg (N := 6) ?hd (xs := ([] : List Int)) (inner := []) (ok := fun _ => True) (okp := fun _ => True) ?hr ?hp (fun _ hk => hk) trivial (Below.refl _ _) (Nat.le_refl _) (by simp) ?_; (case hd => rfl); (case hg => rfl); (case hr => first | (go_simp; done) | (go_simp; rfl)); (case hp => exact (Reps.none _ _)); intro v107 w10 ho11 hb hg_ hnew_; clear hg_ hnew_; (first | rw [← Ny106.out] at ho11 | (simp only [Int.reduceToNat] at ho11; rw [← Ny106.out] at ho11)); have n0_ := Aside0.mk (Kd.R_lower ho11 (below_size (by repeat (first | (with_reducible first | exact HB.out | apply below_alloc | apply pw_below_drewN | apply below_drew1) | exact HB.out)))); have n1_ := Aside0.mk (below_step (by repeat (first | (with_reducible first | exact HB.out | apply below_alloc | apply pw_below_drewN | apply below_drew1) | exact HB.out)) hb); clear HB; have HO108 := n0_; have HB := n1_; clear n0_ n1_; clear hb ho11))
  go_ret
  exact ⟨_, by first | rfl | (simp [errW_none, errW_some] <;> rfl) | (simp [*, errW_none, errW_some] <;> rfl), by (with_reducible repeat (first | apply Kd.R_alloc | apply Kd.R_drewN | apply Kd.R_drew)); exact HO108.out, by repeat (first | (with_reducible first | exact HB.out | apply below_alloc | apply pw_below_drewN | apply below_drew1) | exact HB.out)⟩

end Go.Proofs.Ytldcckcljjlglaa.P

namespace Go.Proofs.Ytldcckcljjlglaa.P
open Go.RowKit Go.Proofs.YtldcckcljjlglaaW.PrintWords Go.Proofs.YtldcckcljjlglaaW.PrintLast Go.Proofs.YtldcckcljjlglaaW.PrintMore
attribute [local go_sem] max2_int min2_int max_two min_two max_three min_three max_four min_four   -- for this text's walks alone
set_option linter.unusedVariables false
set_option linter.unusedSimpArgs false

/-! ### impl_LinePoly: function 33 -/
def impl_LinePoly.f (k : Nat) (l0 : List (S40)) : Option (List Int) := (impl_AreLines.f l0).bind fun t101 => (if t101 = true then ((impl_excess.f k l0).bind fun t102 => (some (([t102, wrap64 (-(l0.length : Int)), 1] : List Int)))) else (some ([] : List Int)))
theorem impl_LinePoly.mono : ∀ a0 k, LeO (impl_LinePoly.f k a0) (impl_LinePoly.f (k + 1) a0) := by
 intro a0 k
 unfold impl_LinePoly.f
 repeat' first
   | (with_reducible exact impl_excess.mono _ _)
   | (with_reducible exact LeO.refl _)
   | (with_reducible exact LeO.none _)
   | (with_reducible refine LeO.ite ?_ ?_)
   | (with_reducible refine LeO.bind ?_ (fun _ => ?_))
   | exact impl_excess.mono _ _
   | exact LeO.none _
   | refine LeO.ite ?_ ?_
   | refine LeO.bind ?_ (fun _ => ?_)
set_option maxHeartbeats 8000000 in
set_option maxRecDepth 100000 in
theorem impl_LinePoly.calls (k : Nat) (A0 : Option Addr) (c0 : Nat) (l0 : List (S40)) (r : List Int) (w : World) (hr0 : Kd.C k40 w A0 l0.length l0) (hc0 : l0.length ≤ c0) (h : impl_LinePoly.f k l0 = some r) :
  Calls Try.prog 33 #[.slice A0 l0.length c0] w fun e w' => ∃ v0_ : Value, e = .returned (v0_) ∧ Kd.R (Kd.int .i64) 3 w' w.heap.size (fun _ => True) v0_ r ∧ Below w.heap.size w w' := by
 have HR0 := Aside0.mk hr0
 have HC0 := Aside0.mk hc0
 clear hr0 hc0
 have HB := Aside0.mk (Below.refl w.heap.size w)
 have H : ((impl_AreLines.f l0).bind fun t101 => (if t101 = true then ((impl_excess.f k l0).bind fun t102 => (some (([t102, wrap64 (-(l0.length : Int)), 1] : List Int)))) else (some ([] : List Int)))) = some r := h
 clear h
 replace H := Option.bind_eq_some_iff.mp H
 obtain ⟨t101, A20, H⟩ := H
 replace H : (if t101 = true then ((impl_excess.f k l0).bind fun t102 => (some (([t102, wrap64 (-(l0.length : Int)), 1] : List Int)))) else (some ([] : List Int))) = some r := H
 have A2 := Aside0.mk A20
 clear A20
 by_cases c3 : t101 = true
 ·subst c3
  have H1 : ((impl_excess.f k l0).bind fun t102 => (some (([t102, wrap64 (-(l0.length : Int)), 1] : List Int)))) = some r := by rw [if_pos rfl] at H; exact H
  clear H
  have H := H1
  clear H1
  replace H := Option.bind_eq_some_iff.mp H
  obtain ⟨t102, A40, H⟩ := H
  replace H : (some (([t102, wrap64 (-(l0.length : Int)), 1] : List Int))) = some r := H
  have A4 := Aside0.mk A40
  clear A40
  obtain ⟨y103, hy103⟩ : ∃ y_ : List Int, y_ = (([t102, wrap64 (-(l0.length : Int)), 1] : List Int)) := ⟨_, rfl⟩
  replace H : (some y103) = some r := by first | (rw [hy103]; with_reducible exact H) | (have H2_ := (Option.bind_some _ _).symm.trans H; rw [hy103]; with_reducible exact H2_) | (have H2_ := (Option.bind_some _ _).symm.trans H; with_reducible exact H2_) | with_reducible exact H | (rw [hy103]; exact H) | exact H
  have Ny103 := Aside0.mk hy103
  clear hy103
  obtain rfl := Option.some.inj H
  go_enter Try.func33, Try.ntmps33
  go_wp2_with (first | ((with_reducible refine gate_callee (f := 52) rfl ?_); refine goesL_ (some 4) rfl rfl Try.func52 (by kernel_rfl) rfl #[.slice A0 l0.length c0] rfl (by (try simp only [List.map_toArray, List.map_cons, List.map_nil]); first | done | rfl | (simp only [List.length_drop, List.length_take]; rfl)) ?_; (with_reducible refine (impl_AreLines.calls _ _ l0 true _ ?side1 ?side2 A2.out).mono ?_); (case side1 => repeat (first | exact HR0.out | (with_reducible refine Kd.C_alloc ?_ _) | (with_reducible refine Kd.C_drewN ?_ _) | (with_reducible refine Kd.C_drew ?_))); (case side2 => exact HC0.out); rintro e w5 ⟨rfl, hb⟩; refine ⟨_, rfl, ?_⟩; have n0_ := Aside0.mk (below_step (by repeat (first | (with_reducible first | exact HB.out | apply below_alloc | apply pw_below_drewN | apply below_drew1) | exact HB.out)) hb); clear HB; have HB := n0_; clear n0_; (try clear hb); (try clear hb2); (try clear hk); (try clear hi)) | ((with_reducible refine gate_callee (f := 96) rfl ?_); refine goesL_ (some 7) rfl rfl Try.func96 (by kernel_rfl) rfl #[.slice A0 l0.length c0] rfl (by (try simp only [List.map_toArray, List.map_cons, List.map_nil]); first | done | rfl | (simp only [List.length_drop, List.length_take]; rfl)) ?_; (with_reducible refine (impl_excess.calls k _ _ l0 t102 _ ?side1 ?side2 A4.out).mono ?_); (case side1 => repeat (first | exact (Kd.C_below HR0.out HB.out) | (with_reducible refine Kd.C_alloc ?_ _) | (with_reducible refine Kd.C_drewN ?_ _) | (with_reducible refine Kd.C_drew ?_))); (case side2 => exact HC0.out); rintro e w6 ⟨rfl, hb⟩; refine ⟨_, rfl, ?_⟩; have n0_ := Aside0.mk (below_step (by repeat (first | (with_reducible first | exact HB.out | apply below_alloc | apply pw_below_drewN | apply below_drew1) | exact HB.out)) hb); clear HB; have HB := n0_; clear n0_; (try clear hb); (try clear hb2); (try clear hk); (try clear hi)) | ((with_reducible refine gate_dst (N := 11) rfl ?_); refine Kd.R_lit (Kd.int .i64) _ 3 ?hg (N := 11) ?hd (xs := ([t102, wrap64 (-(l0.length : Int)), 1] : List Int)) (inner := [.int .i64 t102, .int .i64 (wrap64 (-(l0.length : Int))), .int .i64 1]) (ok := fun _ => True) (okp := fun _ => True) ?hr ?hp (fun _ hk => hk) trivial (Below.refl _ _) (Nat.le_refl _) (by simp) ?_; (case hd => rfl); (case hg => rfl); (case hr => first | (go_simp; done) | (go_simp; rfl)); (case hp => exact (Reps.one (show Kd.M (Kd.int .i64) _ _ _ t102 [.int .i64 t102] from rfl) (Reps.one (show Kd.M (Kd.int .i64) _ _ _ (wrap64 (-(l0.length : Int))) [.int .i64 (wrap64 (-(l0.length : Int)))] from rfl) (Reps.one (show Kd.M (Kd.int .i64) _ _ _ 1 [.int .i64 1] from rfl) (Reps.none _ _))))); intro v104 w7 ho8 hb hg_ hnew_; clear hg_ hnew_; (first | rw [← Ny103.out] at ho8 | (simp only [Int.reduceToNat] at ho8; rw [← Ny103.out] at ho8)); have n0_ := Aside0.mk (Kd.R_lower ho8 (below_size (by repeat (first | (with_reducible first | exact HB.out | apply below_alloc | apply pw_below_drewN | apply below_drew1) | exact HB.out)))); have n1_ := Aside0.mk (below_step (by repeat (first | (with_reducible first | exact HB.out | apply below_alloc | apply pw_below_drewN | apply below_drew1) | exact HB.out)) hb); clear HB; have HO105 := n0_; have HB := n1_; clear n0_ n1_; clear hb ho8))
  go_ret
  exact ⟨_, by first | rfl | (simp [errW_none, errW_some] <;> rfl) | (simp [*, errW_none, errW_some] <;> rfl), by (with_reducible repeat (first | apply Kd.R_alloc | apply Kd.R_drewN | apply Kd.R_drew)); exact HO105.out, by repeat (first | (with_reducible first | exact HB.out | apply below_alloc | apply pw_below_drewN | apply below_drew1) | exact HB.out)⟩
 ·replace c3 := Bool.eq_false_iff.mpr c3
  subst c3
  have H1 : (some ([] : List Int)) = some r := by rw [if_neg (show ¬ (false = true) by decide)] at H; exact H
  clear H
  have H := H1
  clear H1
  obtain rfl := Option.some.inj H
  go_enter Try.func33, Try.ntmps33
  go_wp2_with (first | ((with_reducible refine gate_callee (f := 52) rfl ?_); refine goesL_ (some 4) rfl rfl Try.func52 (by kernel_rfl) rfl #[.slice A0 l0.length c0] rfl (by (try simp only [List.map_toArray, List.map_cons, List.map_nil]); first | done | rfl | (simp only [List.length_drop, List.length_take]; rfl)) ?_; (with_reducible refine (impl_AreLines.calls _ _ l0 false _ ?side1 ?side2 A2.out).mono ?_); (case side1 => repeat (first | exact HR0.out | (with_reducible refine Kd.C_alloc ?_ _) | (with_reducible refine Kd.C_drewN ?_ _) | (with_reducible refine Kd.C_drew ?_))); (case side2 => exact HC0.out); rintro e w9 ⟨rfl, hb⟩; refine ⟨_, rfl, ?_⟩; have n0_ := Aside0.mk (below_step (by repeat (first | (with_reducible first | exact HB.out | apply below_alloc | apply pw_below_drewN | apply below_drew1) | exact HB.out)) hb); clear HB; have HB := n0_; clear n0_; (try clear hb); (try clear hb2); (try clear hk); (try clear hi)))
  go_ret
  exact ⟨_, by first | rfl | (simp [errW_none, errW_some] <;> rfl) | (simp [*, errW_none, errW_some] <;> rfl), by first | exact Kd.R_nil _ _ _ _ _ | exact Kd.N_nil _ _ _ _ _ | exact Kd.V_nil _ _ _ _ _ | exact Kd.Q_nil _ _ _ _ _ | exact Kd.S_nil _ _ _ _ _, by repeat (first | (with_reducible first | exact HB.out | apply below_alloc | apply pw_below_drewN | apply below_drew1) | exact HB.out)⟩

end Go.Proofs.Ytldcckcljjlglaa.P

namespace Go.Proofs.Ytldcckcljjlglaa.P
open Go.RowKit Go.Proofs.YtldcckcljjlglaaW.PrintWords Go.Proofs.YtldcckcljjlglaaW.PrintLast Go.Proofs.YtldcckcljjlglaaW.PrintMore
attribute [local go_sem] max2_int min2_int max_two min_two max_three min_three max_four min_four   -- for this text's walks alone
set_option linter.unusedVariables false
set_option linter.unusedSimpArgs false

/-! ### spec_PolyAtPrime: function 28 -/
def spec_PolyAtPrime.f (k : Nat) (l0 : List (S40)) (a1 : Int) : Option (Int) := (spec_LinePoly.f k l0).bind fun t101 => (if (t101.length : Int) = 0 then (some 0) else ((spec_l1In.f a1 (-1000) 1000).bind fun t104 => (if t104 = true then (if 0 < (t101.length : Int) then (if 1 < (t101.length : Int) then (some (wrap64 ((wrap64 ((rd t101 0) + (wrap64 ((rd t101 1) * a1)))) + (wrap64 (a1 * a1))))) else (none)) else (none)) else (some 0))))
theorem spec_PolyAtPrime.mono : ∀ a0 a1 k, LeO (spec_PolyAtPrime.f k a0 a1) (spec_PolyAtPrime.f (k + 1) a0 a1) := by
 intro a0 a1 k
 unfold spec_PolyAtPrime.f
 repeat' first
   | (with_reducible exact spec_LinePoly.mono _ _)
   | (with_reducible exact LeO.refl _)
   | (with_reducible exact LeO.none _)
   | (with_reducible refine LeO.ite ?_ ?_)
   | (with_reducible refine LeO.bind ?_ (fun _ => ?_))
   | exact spec_LinePoly.mono _ _
   | exact LeO.none _
   | refine LeO.ite ?_ ?_
   | refine LeO.bind ?_ (fun _ => ?_)
set_option maxHeartbeats 8000000 in
set_option maxRecDepth 100000 in
theorem spec_PolyAtPrime.calls (k : Nat) (A0 : Option Addr) (c0 : Nat) (l0 : List (S40)) (a1 : Int) (r : Int) (w : World) (hr0 : Kd.C k40 w A0 l0.length l0) (hc0 : l0.length ≤ c0) (h : spec_PolyAtPrime.f k l0 a1 = some r) :
  Calls Try.prog 28 #[.slice A0 l0.length c0, .int .i64 a1] w fun e w' => e = .returned (.int .i64 r) ∧ Below w.heap.size w w' := by
 have HR0 := Aside0.mk hr0
 have HC0 := Aside0.mk hc0
 clear hr0 hc0
 have HB := Aside0.mk (Below.refl w.heap.size w)
 have H : ((spec_LinePoly.f k l0).bind fun t101 => (if (t101.length : Int) = 0 then (some 0) else ((spec_l1In.f a1 (-1000) 1000).bind fun t104 => (if t104 = true then (if 0 < (t101.length : Int) then (if 1 < (t101.length : Int) then (some (wrap64 ((wrap64 ((rd t101 0) + (wrap64 ((rd t101 1) * a1)))) + (wrap64 (a1 * a1))))) else (none)) else (none)) else (some 0))))) = some r := h
 clear h
 replace H := Option.bind_eq_some_iff.mp H
 obtain ⟨t101, A30, H⟩ := H
 replace H : (if (t101.length : Int) = 0 then (some 0) else ((spec_l1In.f a1 (-1000) 1000).bind fun t104 => (if t104 = true then (if 0 < (t101.length : Int) then (if 1 < (t101.length : Int) then (some (wrap64 ((wrap64 ((rd t101 0) + (wrap64 ((rd t101 1) * a1)))) + (wrap64 (a1 * a1))))) else (none)) else (none)) else (some 0)))) = some r := H
 have A3 := Aside0.mk A30
 clear A30
 by_cases c4 : (t101.length : Int) = 0
 ·rw [if_pos c4] at H
  have c4b0 : ((t101.length : Int) == 0) = true := beq_iff_eq.mpr c4
  have c4b1 : ((t101.length : Int) != 0) = false := bne_eq_false_iff_eq.mpr c4
  clear c4
  obtain rfl := Option.some.inj H
  go_enter Try.func28, Try.ntmps28
  go_wp2_with (first | (go_at_call 32; (with_reducible refine (spec_LinePoly.calls k _ _ l0 t101 _ ?side1 ?side2 A3.out).mono ?_); (case side1 => repeat (first | exact HR0.out | (with_reducible refine Kd.C_alloc ?_ _) | (with_reducible refine Kd.C_drewN ?_ _) | (with_reducible refine Kd.C_drew ?_))); (case side2 => exact HC0.out); rintro e w5 ⟨v102, rfl, ho0, hb⟩; have n0_ := Aside0.mk (Kd.R_lower ho0 (below_size (by repeat (first | (with_reducible first | exact HB.out | apply below_alloc | apply pw_below_drewN | apply below_drew1) | exact HB.out)))); have n1_ := Aside0.mk (below_step (by repeat (first | (with_reducible first | exact HB.out | apply below_alloc | apply pw_below_drewN | apply below_drew1) | exact HB.out)) hb); clear HB; have HO103 := n0_; have HB := n1_; clear n0_ n1_; (try clear hb); (try clear hb2); (try clear hk); (try clear hi); (try clear ho0); obtain ⟨Ao6, co6, eo6⟩ := Kd.R_slice HO103.out; subst eo6))
  repeat (go_quiet (first | (go_at_call 32; (with_reducible refine (spec_LinePoly.calls k _ _ l0 t101 _ ?side1 ?side2 A3.out).mono ?_); (case side1 => repeat (first | exact HR0.out | (with_reducible refine Kd.C_alloc ?_ _) | (with_reducible refine Kd.C_drewN ?_ _) | (with_reducible refine Kd.C_drew ?_))); (case side2 => exact HC0.out); rintro e w5 ⟨v102, rfl, ho0, hb⟩; have n0_ := Aside0.mk (Kd.R_lower ho0 (below_size (by repeat (first | (with_reducible first | exact HB.out | apply below_alloc | apply pw_below_drewN | apply below_drew1) | exact HB.out)))); have n1_ := Aside0.mk (below_step (by repeat (first | (with_reducible first | exact HB.out | apply below_alloc | apply pw_below_drewN | apply below_drew1) | exact HB.out)) hb); clear HB; have HO103 := n0_; have HB := n1_; clear n0_ n1_; (try clear hb); (try clear hb2); (try clear hk); (try clear hi); (try clear ho0); obtain ⟨Ao6, co6, eo6⟩ := Kd.R_slice HO103.out; subst eo6)); try go_wp2_with (first | (go_at_call 32; (with_reducible refine (spec_LinePoly.calls k _ _ l0 t101 _ ?side1 ?side2 A3.out).mono ?_); (case side1 => repeat (first | exact HR0.out | (with_reducible refine Kd.C_alloc ?_ _) | (with_reducible refine Kd.C_drewN ?_ _) | (with_reducible refine Kd.C_drew ?_))); (case side2 => exact HC0.out); rintro e w5 ⟨v102, rfl, ho0, hb⟩; have n0_ := Aside0.mk (Kd.R_lower ho0 (below_size (by repeat (first | (with_reducible first | exact HB.out | apply below_alloc | apply pw_below_drewN | apply below_drew1) | exact HB.out)))); have n1_ := Aside0.mk (below_step (by repeat (first | (with_reducible first | exact HB.out | apply below_alloc | apply pw_below_drewN | apply below_drew1) | exact HB.out)) hb); clear HB; have HO103 := n0_; have HB := n1_; clear n0_ n1_; (try clear hb); (try clear hb2); (try clear hk); (try clear hi); (try clear ho0); obtain ⟨Ao6, co6, eo6⟩ := Kd.R_slice HO103.out; subst eo6)))
  go_ret
  exact ⟨by first | rfl | (simp [errW_none, errW_some] <;> rfl) | (simp [*, errW_none, errW_some] <;> rfl), by repeat (first | (with_reducible first | exact HB.out | apply below_alloc | apply pw_below_drewN | apply below_drew1) | exact HB.out)⟩
 ·rw [if_neg c4] at H
  have c4b0 : ((t101.length : Int) == 0) = false := beq_eq_false_iff_ne.mpr c4
  have c4b1 : ((t101.length : Int) != 0) = true := bne_iff_ne.mpr c4
  have c4b2 : ¬ (t101 = []) := fun h_ => c4 (by rw [h_]; rfl)
  replace H := Option.bind_eq_some_iff.mp H
  obtain ⟨t104, A70, H⟩ := H
  replace H : (if t104 = true then (if 0 < (t101.length : Int) then (if 1 < (t101.length : Int) then (some (wrap64 ((wrap64 ((rd t101 0) + (wrap64 ((rd t101 1) * a1)))) + (wrap64 (a1 * a1))))) else (none)) else (none)) else (some 0)) = some r := H
  have A7 := Aside0.mk A70
  clear A70
  by_cases c8 : t104 = true
  ·subst c8
   have H1 : (if 0 < (t101.length : Int) then (if 1 < (t101.length : Int) then (some (wrap64 ((wrap64 ((rd t101 0) + (wrap64 ((rd t101 1) * a1)))) + (wrap64 (a1 * a1))))) else (none)) else (none)) = some r := by rw [if_pos rfl] at H; exact H
   clear H
   have H := H1
   clear H1
   by_cases c9 : 0 < (t101.length : Int)
   ·rw [if_pos c9] at H
    have c9b0 : decide (0 < (t101.length : Int)) = true := decide_eq_true c9
    have c9b1 : decide (0 < t101.length) = true := decide_eq_true (by omega)
    clear c9
    by_cases c10 : 1 < (t101.length : Int)
    ·rw [if_pos c10] at H
     have c10b0 : decide (1 < (t101.length : Int)) = true := decide_eq_true c10
     have c10b1 : decide (1 < t101.length) = true := decide_eq_true (by omega)
     clear c10
     obtain rfl := Option.some.inj H
     go_enter Try.func28, Try.ntmps28
     go_wp2_with (first | (go_at_call 32; (with_reducible refine (spec_LinePoly.calls k _ _ l0 t101 _ ?side1 ?side2 A3.out).mono ?_); (case side1 => repeat (first | exact HR0.out | (with_reducible refine Kd.C_alloc ?_ _) | (with_reducible refine Kd.C_drewN ?_ _) | (with_reducible refine Kd.C_drew ?_))); (case side2 => exact HC0.out); rintro e w11 ⟨v102, rfl, ho0, hb⟩; have n0_ := Aside0.mk (Kd.R_lower ho0 (below_size (by repeat (first | (with_reducible first | exact HB.out | apply below_alloc | apply pw_below_drewN | apply below_drew1) | exact HB.out)))); have n1_ := Aside0.mk (below_step (by repeat (first | (with_reducible first | exact HB.out | apply below_alloc | apply pw_below_drewN | apply below_drew1) | exact HB.out)) hb); clear HB; have HO103 := n0_; have HB := n1_; clear n0_ n1_; (try clear hb); (try clear hb2); (try clear hk); (try clear hi); (try clear ho0); obtain ⟨Ao12, co12, eo12⟩ := Kd.R_slice HO103.out; subst eo12) | (go_at_call 91; (with_reducible refine (spec_l1In.calls a1 (-1000) 1000 true _ A7.out).mono ?_); rintro e w' ⟨rfl, ⟨nd, rfl⟩⟩; (try first | exact ⟨rfl, _, World.drewN_drewN _ _ _⟩ | exact ⟨rfl, _, Eq.trans (World.drewN_drewN _ _ _) (congrArg (World.drewN _) (Nat.add_assoc _ _ _))⟩); have p105 : 0 ≤ (0 : Int) := (by omega); have q105 : 0 < (t101.length : Int) := of_decide_eq_true (by first | (with_reducible assumption) | assumption); obtain ⟨ad105, e105, hx105_0⟩ := Kd.at_int (Kd.R_reads' HO103.out).2.2 0 p105 q105; cases e105; have qi105 : (0 < t101.length) = True := eq_true (by omega); (try rw [show ((0 : Int)).toNat = 0 from rfl] at hx105_0); (try rw [Addr.add_zero'] at hx105_0); replace p105 := eq_true p105; replace q105 := eq_true q105; have p106 : 0 ≤ (1 : Int) := (by omega); have q106 : 1 < (t101.length : Int) := of_decide_eq_true (by first | (with_reducible assumption) | assumption); obtain ⟨ad106, e106, hx106_0⟩ := Kd.at_int (Kd.R_reads' HO103.out).2.2 1 p106 q106; obtain rfl : ad105 = ad106 := (by injection e106); (try simp only [show (1 : Int).toNat = 1 from rfl, Nat.reduceMul, Nat.reduceEqDiff, Go.Addr.add, ↓reduceIte] at hx106_0); have qi106 : (1 < t101.length) = True := eq_true (by omega); (try rw [show ((1 : Int)).toNat = 1 from rfl] at hx106_0); replace p106 := eq_true p106; replace q106 := eq_true q106))
     repeat (go_quiet (first | (go_at_call 32; (with_reducible refine (spec_LinePoly.calls k _ _ l0 t101 _ ?side1 ?side2 A3.out).mono ?_); (case side1 => repeat (first | exact HR0.out | (with_reducible refine Kd.C_alloc ?_ _) | (with_reducible refine Kd.C_drewN ?_ _) | (with_reducible refine Kd.C_drew ?_))); (case side2 => exact HC0.out); rintro e w11 ⟨v102, rfl, ho0, hb⟩; have n0_ := Aside0.mk (Kd.R_lower ho0 (below_size (by repeat (first | (with_reducible first | exact HB.out | apply below_alloc | apply pw_below_drewN | apply below_drew1) | exact HB.out)))); have n1_ := Aside0.mk (below_step (by repeat (first | (with_reducible first | exact HB.out | apply below_alloc | apply pw_below_drewN | apply below_drew1) | exact HB.out)) hb); clear HB; have HO103 := n0_; have HB := n1_; clear n0_ n1_; (try clear hb); (try clear hb2); (try clear hk); (try clear hi); (try clear ho0); obtain ⟨Ao12, co12, eo12⟩ := Kd.R_slice HO103.out; subst eo12) | (go_at_call 91; (with_reducible refine (spec_l1In.calls a1 (-1000) 1000 true _ A7.out).mono ?_); rintro e w' ⟨rfl, ⟨nd, rfl⟩⟩; (try first | exact ⟨rfl, _, World.drewN_drewN _ _ _⟩ | exact ⟨rfl, _, Eq.trans (World.drewN_drewN _ _ _) (congrArg (World.drewN _) (Nat.add_assoc _ _ _))⟩); have p105 : 0 ≤ (0 : Int) := (by omega); have q105 : 0 < (t101.length : Int) := of_decide_eq_true (by first | (with_reducible assumption) | assumption); obtain ⟨ad105, e105, hx105_0⟩ := Kd.at_int (Kd.R_reads' HO103.out).2.2 0 p105 q105; cases e105; have qi105 : (0 < t101.length) = True := eq_true (by omega); (try rw [show ((0 : Int)).toNat = 0 from rfl] at hx105_0); (try rw [Addr.add_zero'] at hx105_0); replace p105 := eq_true p105; replace q105 := eq_true q105; have p106 : 0 ≤ (1 : Int) := (by omega); have q106 : 1 < (t101.length : Int) := of_decide_eq_true (by first | (with_reducible assumption) | assumption); obtain ⟨ad106, e106, hx106_0⟩ := Kd.at_int (Kd.R_reads' HO103.out).2.2 1 p106 q106; obtain rfl : ad105 = ad106 := (by injection e106); (try simp only [show (1 : Int).toNat = 1 from rfl, Nat.reduceMul, Nat.reduceEqDiff, Go.Addr.add, ↓reduceIte] at hx106_0); have qi106 : (1 < t101.length) = True := eq_true (by omega); (try rw [show ((1 : Int)).toNat = 1 from rfl] at hx106_0); replace p106 := eq_true p106; replace q106 := eq_true q106)); try go_wp2_with (first | (go_at_call 32; (with_reducible refine (spec_LinePoly.calls k _ _ l0 t101 _ ?side1 ?side2 A3.out).mono ?_); (case side1 => repeat (first | exact HR0.out | (with_reducible refine Kd.C_alloc ?_ _) | (with_reducible refine Kd.C_drewN ?_ _) | (with_reducible refine Kd.C_drew ?_))); (case side2 => exact HC0.out); rintro e w11 ⟨v102, rfl, ho0, hb⟩; have n0_ := Aside0.mk (Kd.R_lower ho0 (below_size (by repeat (first | (with_reducible first | exact HB.out | apply below_alloc | apply pw_below_drewN | apply below_drew1) | exact HB.out)))); have n1_ := Aside0.mk (below_step (by repeat (first | (with_reducible first | exact HB.out | apply below_alloc | apply pw_below_drewN | apply below_drew1) | exact HB.out)) hb); clear HB; have HO103 := n0_; have HB := n1_; clear n0_ n1_; (try clear hb); (try clear hb2); (try clear hk); (try clear hi); (try clear ho0); obtain ⟨Ao12, co12, eo12⟩ := Kd.R_slice HO103.out; subst eo12) | (go_at_call 91; (with_reducible refine (spec_l1In.calls a1 (-1000) 1000 true _ A7.out).mono ?_); rintro e w' ⟨rfl, ⟨nd, rfl⟩⟩; (try first | exact ⟨rfl, _, World.drewN_drewN _ _ _⟩ | exact ⟨rfl, _, Eq.trans (World.drewN_drewN _ _ _) (congrArg (World.drewN _) (Nat.add_assoc _ _ _))⟩); have p105 : 0 ≤ (0 : Int) := (by omega); have q105 : 0 < (t101.length : Int) := of_decide_eq_true (by first | (with_reducible assumption) | assumption); obtain ⟨ad105, e105, hx105_0⟩ := Kd.at_int (Kd.R_reads' HO103.out).2.2 0 p105 q105; cases e105; have qi105 : (0 < t101.length) = True := eq_true (by omega); (try rw [show ((0 : Int)).toNat = 0 from rfl] at hx105_0); (try rw [Addr.add_zero'] at hx105_0); replace p105 := eq_true p105; replace q105 := eq_true q105; have p106 : 0 ≤ (1 : Int) := (by omega); have q106 : 1 < (t101.length : Int) := of_decide_eq_true (by first | (with_reducible assumption) | assumption); obtain ⟨ad106, e106, hx106_0⟩ := Kd.at_int (Kd.R_reads' HO103.out).2.2 1 p106 q106; obtain rfl : ad105 = ad106 := (by injection e106); (try simp only [show (1 : Int).toNat = 1 from rfl, Nat.reduceMul, Nat.reduceEqDiff, Go.Addr.add, ↓reduceIte] at hx106_0); have qi106 : (1 < t101.length) = True := eq_true (by omega); (try rw [show ((1 : Int)).toNat = 1 from rfl] at hx106_0); replace p106 := eq_true p106; replace q106 := eq_true q106)))
     go_ret
     exact ⟨by first | rfl | (simp [errW_none, errW_some] <;> rfl) | (simp [*, errW_none, errW_some] <;> rfl), by repeat (first | (with_reducible first | exact HB.out | apply below_alloc | apply pw_below_drewN | apply below_drew1) | exact HB.out)⟩
    ·rw [if_neg c10] at H
     exact absurd H (by simp)
   ·rw [if_neg c9] at H
    exact absurd H (by simp)
  ·replace c8 := Bool.eq_false_iff.mpr c8
   subst c8
   have H1 : (some 0) = some r := by rw [if_neg (show ¬ (false = true) by decide)] at H; exact H
   clear H
   have H := H1
   clear H1
   obtain rfl := Option.some.inj H
   go_enter Try.func28, Try.ntmps28
   go_wp2_with (first | (go_at_call 32; (with_reducible refine (spec_LinePoly.calls k _ _ l0 t101 _ ?side1 ?side2 A3.out).mono ?_); (case side1 => repeat (first | exact HR0.out | (with_reducible refine Kd.C_alloc ?_ _) | (with_reducible refine Kd.C_drewN ?_ _) | (with_reducible refine Kd.C_drew ?_))); (case side2 => exact HC0.out); rintro e w13 ⟨v102, rfl, ho0, hb⟩; have n0_ := Aside0.mk (Kd.R_lower ho0 (below_size (by repeat (first | (with_reducible first | exact HB.out | apply below_alloc | apply pw_below_drewN | apply below_drew1) | exact HB.out)))); have n1_ := Aside0.mk (below_step (by repeat (first | (with_reducible first | exact HB.out | apply below_alloc | apply pw_below_drewN | apply below_drew1) | exact HB.out)) hb); clear HB; have HO103 := n0_; have HB := n1_; clear n0_ n1_; (try clear hb); (try clear hb2); (try clear hk); (try clear hi); (try clear ho0); obtain ⟨Ao14, co14, eo14⟩ := Kd.R_slice HO103.out; subst eo14) | (go_at_call 91; (with_reducible refine (spec_l1In.calls a1 (-1000) 1000 false _ A7.out).mono ?_); rintro e w' ⟨rfl, ⟨nd, rfl⟩⟩; (try first | exact ⟨rfl, _, World.drewN_drewN _ _ _⟩ | exact ⟨rfl, _, Eq.trans (World.drewN_drewN _ _ _) (congrArg (World.drewN _) (Nat.add_assoc _ _ _))⟩)))
   repeat (go_quiet (first | (go_at_call 32; (with_reducible refine (spec_LinePoly.calls k _ _ l0 t101 _ ?side1 ?side2 A3.out).mono ?_); (case side1 => repeat (first | exact HR0.out | (with_reducible refine Kd.C_alloc ?_ _) | (with_reducible refine Kd.C_drewN ?_ _) | (with_reducible refine Kd.C_drew ?_))); (case side2 => exact HC0.out); rintro e w13 ⟨v102, rfl, ho0, hb⟩; have n0_ := Aside0.mk (Kd.R_lower ho0 (below_size (by repeat (first | (with_reducible first | exact HB.out | apply below_alloc | apply pw_below_drewN | apply below_drew1) | exact HB.out)))); have n1_ := Aside0.mk (below_step (by repeat (first | (with_reducible first | exact HB.out | apply below_alloc | apply pw_below_drewN | apply below_drew1) | exact HB.out)) hb); clear HB; have HO103 := n0_; have HB := n1_; clear n0_ n1_; (try clear hb); (try clear hb2); (try clear hk); (try clear hi); (try clear ho0); obtain ⟨Ao14, co14, eo14⟩ := Kd.R_slice HO103.out; subst eo14) | (go_at_call 91; (with_reducible refine (spec_l1In.calls a1 (-1000) 1000 false _ A7.out).mono ?_); rintro e w' ⟨rfl, ⟨nd, rfl⟩⟩; (try first | exact ⟨rfl, _, World.drewN_drewN _ _ _⟩ | exact ⟨rfl, _, Eq.trans (World.drewN_drewN _ _ _) (congrArg (World.drewN _) (Nat.add_assoc _ _ _))⟩))); try go_wp2_with (first | (go_at_call 32; (with_reducible refine (spec_LinePoly.calls k _ _ l0 t101 _ ?side1 ?side2 A3.out).mono ?_); (case side1 => repeat (first | exact HR0.out | (with_reducible refine Kd.C_alloc ?_ _) | (with_reducible refine Kd.C_drewN ?_ _) | (with_reducible refine Kd.C_drew ?_))); (case side2 => exact HC0.out); rintro e w13 ⟨v102, rfl, ho0, hb⟩; have n0_ := Aside0.mk (Kd.R_lower ho0 (below_size (by repeat (first | (with_reducible first | exact HB.out | apply below_alloc | apply pw_below_drewN | apply below_drew1) | exact HB.out)))); have n1_ := Aside0.mk (below_step (by repeat (first | (with_reducible first | exact HB.out | apply below_alloc | apply pw_below_drewN | apply below_drew1) | exact HB.out)) hb); clear HB; have HO103 := n0_; have HB := n1_; clear n0_ n1_; (try clear hb); (try clear hb2); (try clear hk); (try clear hi); (try clear ho0); obtain ⟨Ao14, co14, eo14⟩ := Kd.R_slice HO103.out; subst eo14) | (go_at_call 91; (with_reducible refine (spec_l1In.calls a1 (-1000) 1000 false _ A7.out).mono ?_); rintro e w' ⟨rfl, ⟨nd, rfl⟩⟩; (try first | exact ⟨rfl, _, World.drewN_drewN _ _ _⟩ | exact ⟨rfl, _, Eq.trans (World.drewN_drewN _ _ _) (congrArg (World.drewN _) (Nat.add_assoc _ _ _))⟩))))
   go_ret
   exact ⟨by first | rfl | (simp [errW_none, errW_some] <;> rfl) | (simp [*, errW_none, errW_some] <;> rfl), by repeat (first | (with_reducible first | exact HB.out | apply below_alloc | apply pw_below_drewN | apply below_drew1) | exact HB.out)⟩

end Go.Proofs.Ytldcckcljjlglaa.P

namespace Go.Proofs.Ytldcckcljjlglaa.P
open Go.RowKit Go.Proofs.YtldcckcljjlglaaW.PrintWords Go.Proofs.YtldcckcljjlglaaW.PrintLast Go.Proofs.YtldcckcljjlglaaW.PrintMore
attribute [local go_sem] max2_int min2_int max_two min_two max_three min_three max_four min_four   -- for this text's walks alone
set_option linter.unusedVariables false
set_option linter.unusedSimpArgs false

/-! ### impl_PolyAtPrime: function 29 -/
def impl_PolyAtPrime.f (k : Nat) (l0 : List (S40)) (a1 : Int) : Option (Int) := (impl_AreLines.f l0).bind fun t101 => (if t101 = true then ((impl_isFar.f a1 1000).bind fun t102 => (if t102 = true then (some 0) else ((impl_excess.f k l0).bind fun t103 => (some (wrap64 ((wrap64 (t103 - (wrap64 ((l0.length : Int) * a1)))) + (wrap64 (a1 * a1)))))))) else (some 0))
theorem impl_PolyAtPrime.mono : ∀ a0 a1 k, LeO (impl_PolyAtPrime.f k a0 a1) (impl_PolyAtPrime.f (k + 1) a0 a1) := by
 intro a0 a1 k
 unfold impl_PolyAtPrime.f
 repeat' first
   | (with_reducible exact impl_excess.mono _ _)
   | (with_reducible exact LeO.refl _)
   | (with_reducible exact LeO.none _)
   | (with_reducible refine LeO.ite ?_ ?_)
   | (with_reducible refine LeO.bind ?_ (fun _ => ?_))
   | exact impl_excess.mono _ _
   | exact LeO.none _
   | refine LeO.ite ?_ ?_
   | refine LeO.bind ?_ (fun _ => ?_)
set_option maxHeartbeats 8000000 in
set_option maxRecDepth 100000 in
theorem impl_PolyAtPrime.calls (k : Nat) (A0 : Option Addr) (c0 : Nat) (l0 : List (S40)) (a1 : Int) (r : Int) (w : World) (hr0 : Kd.C k40 w A0 l0.length l0) (hc0 : l0.length ≤ c0) (h : impl_PolyAtPrime.f k l0 a1 = some r) :
  Calls Try.prog 29 #[.slice A0 l0.length c0, .int .i64 a1] w fun e w' => e = .returned (.int .i64 r) ∧ Below w.heap.size w w' := by
 have HR0 := Aside0.mk hr0
 have HC0 := Aside0.mk hc0
 clear hr0 hc0
 have HB := Aside0.mk (Below.refl w.heap.size w)
 have H : ((impl_AreLines.f l0).bind fun t101 => (if t101 = true then ((impl_isFar.f a1 1000).bind fun t102 => (if t102 = true then (some 0) else ((impl_excess.f k l0).bind fun t103 => (some (wrap64 ((wrap64 (t103 - (wrap64 ((l0.length : Int) * a1)))) + (wrap64 (a1 * a1)))))))) else (some 0))) = some r := h
 clear h
 replace H := Option.bind_eq_some_iff.mp H
 obtain ⟨t101, A30, H⟩ := H
 replace H : (if t101 = true then ((impl_isFar.f a1 1000).bind fun t102 => (if t102 = true then (some 0) else ((impl_excess.f k l0).bind fun t103 => (some (wrap64 ((wrap64 (t103 - (wrap64 ((l0.length : Int) * a1)))) + (wrap64 (a1 * a1)))))))) else (some 0)) = some r := H
 have A3 := Aside0.mk A30
 clear A30
 by_cases c4 : t101 = true
 ·subst c4
  have H1 : ((impl_isFar.f a1 1000).bind fun t102 => (if t102 = true then (some 0) else ((impl_excess.f k l0).bind fun t103 => (some (wrap64 ((wrap64 (t103 - (wrap64 ((l0.length : Int) * a1)))) + (wrap64 (a1 * a1)))))))) = some r := by rw [if_pos rfl] at H; exact H
  clear H
  have H := H1
  clear H1
  replace H := Option.bind_eq_some_iff.mp H
  obtain ⟨t102, A50, H⟩ := H
  replace H : (if t102 = true then (some 0) else ((impl_excess.f k l0).bind fun t103 => (some (wrap64 ((wrap64 (t103 - (wrap64 ((l0.length : Int) * a1)))) + (wrap64 (a1 * a1))))))) = some r := H
  have A5 := Aside0.mk A50
  clear A50
  by_cases c6 : t102 = true
  ·subst c6
   have H1 : (some 0) = some r := by rw [if_pos rfl] at H; exact H
   clear H
   have H := H1
   clear H1
   obtain rfl := Option.some.inj H
   go_enter Try.func29, Try.ntmps29
   go_wp2_with (first | ((with_reducible refine gate_callee (f := 52) rfl ?_); refine goesL_ (some 6) rfl rfl Try.func52 (by kernel_rfl) rfl #[.slice A0 l0.length c0] rfl (by (try simp only [List.map_toArray, List.map_cons, List.map_nil]); first | done | rfl | (simp only [List.length_drop, List.length_take]; rfl)) ?_; (with_reducible refine (impl_AreLines.calls _ _ l0 true _ ?side1 ?side2 A3.out).mono ?_); (case side1 => repeat (first | exact HR0.out | (with_reducible refine Kd.C_alloc ?_ _) | (with_reducible refine Kd.C_drewN ?_ _) | (with_reducible refine Kd.C_drew ?_))); (case side2 => exact HC0.out); rintro e w7 ⟨rfl, hb⟩; refine ⟨_, rfl, ?_⟩; have n0_ := Aside0.mk (below_step (by repeat (first | (with_reducible first | exact HB.out | apply below_alloc | apply pw_below_drewN | apply below_drew1) | exact HB.out)) hb); clear HB; have HB := n0_; clear n0_; (try clear hb); (try clear hb2); (try clear hk); (try clear hi)) | (go_at_call 95; (with_reducible refine (impl_isFar.calls a1 1000 true _ A5.out).mono ?_); rintro e w' ⟨rfl, ⟨nd, rfl⟩⟩))
   go_ret
   exact ⟨by first | rfl | (simp [errW_none, errW_some] <;> rfl) | (simp [*, errW_none, errW_some] <;> rfl), by repeat (first | (with_reducible first | exact HB.out | apply below_alloc | apply pw_below_drewN | apply below_drew1) | exact HB.out)⟩
  ·replace c6 := Bool.eq_false_iff.mpr c6
   subst c6
   have H1 : ((impl_excess.f k l0).bind fun t103 => (some (wrap64 ((wrap64 (t103 - (wrap64 ((l0.length : Int) * a1)))) + (wrap64 (a1 * a1)))))) = some r := by rw [if_neg (show ¬ (false = true) by decide)] at H; exact H
   clear H
   have H := H1
   clear H1
   replace H := Option.bind_eq_some_iff.mp H
   obtain ⟨t103, A80, H⟩ := H
   replace H : (some (wrap64 ((wrap64 (t103 - (wrap64 ((l0.length : Int) * a1)))) + (wrap64 (a1 * a1))))) = some r := H
   have A8 := Aside0.mk A80
   clear A80
   obtain rfl := Option.some.inj H
   go_enter Try.func29, Try.ntmps29
   go_wp2_with (first | ((with_reducible refine gate_callee (f := 52) rfl ?_); refine goesL_ (some 6) rfl rfl Try.func52 (by kernel_rfl) rfl #[.slice A0 l0.length c0] rfl (by (try simp only [List.map_toArray, List.map_cons, List.map_nil]); first | done | rfl | (simp only [List.length_drop, List.length_take]; rfl)) ?_; (with_reducible refine (impl_AreLines.calls _ _ l0 true _ ?side1 ?side2 A3.out).mono ?_); (case side1 => repeat (first | exact HR0.out | (with_reducible refine Kd.C_alloc ?_ _) | (with_reducible refine Kd.C_drewN ?_ _) | (with_reducible refine Kd.C_drew ?_))); (case side2 => exact HC0.out); rintro e w9 ⟨rfl, hb⟩; refine ⟨_, rfl, ?_⟩; have n0_ := Aside0.mk (below_step (by repeat (first | (with_reducible first | exact HB.out | apply below_alloc | apply pw_below_drewN | apply below_drew1) | exact HB.out)) hb); clear HB; have HB := n0_; clear n0_; (try clear hb); (try clear hb2); (try clear hk); (try clear hi)) | (go_at_call 95; (with_reducible refine (impl_isFar.calls a1 1000 false _ A5.out).mono ?_); rintro e w' ⟨rfl, ⟨nd, rfl⟩⟩) | ((with_reducible refine gate_callee (f := 96) rfl ?_); refine goesL_ (some 13) rfl rfl Try.func96 (by kernel_rfl) rfl #[.slice A0 l0.length c0] rfl (by (try simp only [List.map_toArray, List.map_cons, List.map_nil]); first | done | rfl | (simp only [List.length_drop, List.length_take]; rfl)) ?_; (with_reducible refine (impl_excess.calls k _ _ l0 t103 _ ?side1 ?side2 A8.out).mono ?_); (case side1 => repeat (first | exact (Kd.C_below HR0.out (by repeat (first | (with_reducible first | exact HB.out | apply below_alloc | apply pw_below_drewN | apply below_drew1) | exact HB.out))) | (with_reducible refine Kd.C_alloc ?_ _) | (with_reducible refine Kd.C_drewN ?_ _) | (with_reducible refine Kd.C_drew ?_))); (case side2 => exact HC0.out); rintro e w10 ⟨rfl, hb⟩; refine ⟨_, rfl, ?_⟩; have n0_ := Aside0.mk (below_step (by repeat (first | (with_reducible first | exact HB.out | apply below_alloc | apply pw_below_drewN | apply below_drew1) | exact HB.out)) hb); clear HB; have HB := n0_; clear n0_; (try clear hb); (try clear hb2); (try clear hk); (try clear hi)))
   go_ret
   exact ⟨by first | rfl | (simp [errW_none, errW_some] <;> rfl) | (simp [*, errW_none, errW_some] <;> rfl), by repeat (first | (with_reducible first | exact HB.out | apply below_alloc | apply pw_below_drewN | apply below_drew1) | exact HB.out)⟩
 ·replace c4 := Bool.eq_false_iff.mpr c4
  subst c4
  have H1 : (some 0) = some r := by rw [if_neg (show ¬ (false = true) by decide)] at H; exact H
  clear H
  have H := H1
  clear H1
  obtain rfl := Option.some.inj H
  go_enter Try.func29, Try.ntmps29
  go_wp2_with (first | ((with_reducible refine gate_callee (f := 52) rfl ?_); refine goesL_ (some 6) rfl rfl Try.func52 (by kernel_rfl) rfl #[.slice A0 l0.length c0] rfl (by (try simp only [List.map_toArray, List.map_cons, List.map_nil]); first | done | rfl | (simp only [List.length_drop, List.length_take]; rfl)) ?_; (with_reducible refine (impl_AreLines.calls _ _ l0 false _ ?side1 ?side2 A3.out).mono ?_); (case side1 => repeat (first | exact HR0.out | (with_reducible refine Kd.C_alloc ?_ _) | (with_reducible refine Kd.C_drewN ?_ _) | (with_reducible refine Kd.C_drew ?_))); (case side2 => exact HC0.out); rintro e w11 ⟨rfl, hb⟩; refine ⟨_, rfl, ?_⟩; have n0_ := Aside0.mk (below_step (by repeat (first | (with_reducible first | exact HB.out | apply below_alloc | apply pw_below_drewN | apply below_drew1) | exact HB.out)) hb); clear HB; have HB := n0_; clear n0_; (try clear hb); (try clear hb2); (try clear hk); (try clear hi)))
  go_ret
  exact ⟨by first | rfl | (simp [errW_none, errW_some] <;> rfl) | (simp [*, errW_none, errW_some] <;> rfl), by repeat (first | (with_reducible first | exact HB.out | apply below_alloc | apply pw_below_drewN | apply below_drew1) | exact HB.out)⟩

end Go.Proofs.Ytldcckcljjlglaa.P

namespace Go.Proofs.Ytldcckcljjlglaa.Pure
open Go.RowKit Go.Proofs.Ytldcckcljjlglaa.P Go.Proofs.YtldcckcljjlglaaW.PrintWords Go.Proofs.YtldcckcljjlglaaW.PrintLast Go.Proofs.Ytldcckcljjlglaa.Com
set_option linter.unusedSimpArgs false
set_option linter.unusedVariables false

section
variable {l : List LN} (h : linesB l = true)
include h
theorem pts_low {p : Tri} (hp : p ∈ ptsE l) : lowT p ∧ (p.1.natAbs ≤ 800 ∧ p.2.1.natAbs ≤ 800 ∧ p.2.2.natAbs ≤ 800) := by
  obtain ⟨q, hq, hn, rfl⟩ := ((ptsE_spec l).2 p).1 hp
  have hq := prs_mem.1 hq
  exact ⟨meet_low hn, pt_small h hq.1 hq.2.1 hq.2.2 hn⟩
omit h in
theorem on_pair {p : Tri} (hp : lowT p) {i j : Int} (h0 : 0 ≤ j) (hj : j < i) (hi : i < l.length) (hn : rawD (ln l i) (ln l j) ≠ 0) (h1 : onL (ln l i) p) (h2 : onL (ln l j) p) : ∃ q ∈ prs l.length, ¬ parQ l q ∧ ptQ l q = p ∧ (i = q.1 ∨ i = q.2) ∧ (j = q.1 ∨ j = q.2) :=
  ⟨(i, j), prs_mem.2 ⟨h0, hj, hi⟩, hn, (meet_only hn hp h1 h2).symm, .inl rfl, .inr rfl⟩
theorem on_iff {p : Tri} (hp : p ∈ ptsE l) {k : Int} (hk0 : 0 ≤ k) (hkn : k < l.length) : (∃ q ∈ prs l.length, ¬ parQ l q ∧ ptQ l q = p ∧ (k = q.1 ∨ k = q.2)) ↔ onL (ln l k) p := by
  have hlow := (pts_low h hp).1
  constructor
  · rintro ⟨q, hq, hn, rfl, hk⟩
    have hm := meet_on (a := ln l q.1) (b := ln l q.2) hn
    rcases hk with rfl | rfl
    · exact hm.1
    · exact hm.2
  · intro hon
    obtain ⟨q, hq, hn, rfl⟩ := ((ptsE_spec l).2 p).1 hp
    have hq := prs_mem.1 hq
    have hm := meet_on (a := ln l q.1) (b := ln l q.2) hn
    have hc := (line_small h hk0 hkn).2
    have key : ∀ m : Int, 0 ≤ m → m < l.length → onL (ln l m) (ptQ l q) → rawD (ln l k) (ln l m) ≠ 0 → ∃ x ∈ prs l.length, ¬ parQ l x ∧ ptQ l x = ptQ l q ∧ (k = x.1 ∨ k = x.2) := by
      intro m hm0 hmn hmo hd
      rcases Int.lt_trichotomy m k with hlt | rfl | hlt
      · obtain ⟨x, a, b, c, d, e⟩ := on_pair hlow hm0 hlt hkn hd hon hmo
        exact ⟨x, a, b, c, d⟩
      · exact absurd (by unfold rawD; rw [Int.mul_comm]; omega) hd
      · have hd' : rawD (ln l m) (ln l k) ≠ 0 := by rw [rawD_swap]; omega
        obtain ⟨x, a, b, c, d, e⟩ := on_pair hlow hk0 hlt hmn hd' hmo hon
        exact ⟨x, a, b, c, e⟩
    rcases par_one (a := ln l q.1) (b := ln l q.2) hn hc with hd | hd
    · exact key q.1 (by omega) (by omega) hm.1 hd
    · exact key q.2 (by omega) (by omega) hm.2 hd
omit h in
theorem on_far {p : Tri} {k : Int} (hk : (l.length : Int) ≤ k) : ¬ ∃ q ∈ prs l.length, ¬ parQ l q ∧ ptQ l q = p ∧ (k = q.1 ∨ k = q.2) := by
  rintro ⟨q, hq, _, _, hk'⟩
  have := prs_mem.1 hq
  omega
/-- An entry's set tells which lines are on its point. -/
theorem ent_set {e : Tri × Int} (he : e ∈ mapM_ l) : e.1 ∈ ptsE l ∧ ∃ s : Nat, s < 64 ∧ e.2 = (s : Int) ∧ (∀ k : Nat, k < 6 → l.length ≤ k → s.testBit k = false) ∧ ∀ k : Nat, k < l.length → s.testBit k = onW (ln l (k : Int)) e.1 := by
  have h6 := lines_len h
  obtain ⟨m1, m2, m3⟩ := mapM_spec l h6.2
  have hin : e.1 ∈ ptsE l := ((ptsE_spec l).2 _).2 ((m2 _).1 ⟨e, he, rfl⟩)
  refine ⟨hin, ?_⟩
  obtain ⟨s, h1, h2, h3⟩ := m3 e he
  refine ⟨s, h1, h2, fun k hk hn => ?_, fun k hk => ?_⟩
  · rw [Bool.eq_false_iff]
    intro ht
    exact on_far (k := (k : Int)) (by omega) ((h3 k hk).1 ht)
  · rw [Bool.eq_iff_iff, h3 k (by omega), on_iff h hin (by omega) (by omega), onW_eq (line_small h (by omega) (by omega)).1 (pts_low h hin).2]
end
/-! #### sets below 64 -/
def bitN (s : Nat) (k : Nat) : Int := if s.testBit k = true then 1 else 0
set_option maxRecDepth 100000 in
theorem bit_fin : ∀ (s : Fin 64) (k : Fin 6), Go.bits .and .i64 ((s.val : Int) / 2 ^ min ((k.val : Int)).toNat 64) 1 = bitN s.val k.val := by decide +kernel
def elemsN (s : Nat) : List Int := ((List.range 6).filter fun k => s.testBit k).map (Int.ofNat)
set_option maxRecDepth 100000 in
theorem elems_fin : ∀ s : Fin 64, impl_elementsOf.f 100 (s.val : Int) = some (elemsN s.val) := by decide +kernel
theorem elems_at {s : Nat} (hs : s < 64) {k : Nat} (hk : 100 ≤ k) : impl_elementsOf.f k (s : Int) = some (elemsN s) :=
  at_rounds (g := fun k => impl_elementsOf.f k (s : Int)) (impl_elementsOf.mono _) hk (elems_fin ⟨s, hs⟩)
set_option maxRecDepth 100000 in
theorem count_fin : ∀ (s : Fin 64) (n : Fin 7), (∀ k : Fin 6, n.val ≤ k.val → s.val.testBit k.val = false) → (ints 0 n.val).foldl (fun t i => wrap64 (t + bitN s.val i.toNat)) 0 = ((elemsN s.val).length : Int) := by decide +kernel
theorem foldl_same {α β : Type} {f g : β → α → β} (L : List α) (h : ∀ a ∈ L, ∀ b, f b a = g b a) : ∀ b, L.foldl f b = L.foldl g b := by
  induction L with
  | nil => intro b; rfl
  | cons a L ih =>
    intro b
    rw [List.foldl_cons, List.foldl_cons, h a List.mem_cons_self b]
    exact ih (fun a' ha => h a' (List.mem_cons_of_mem _ ha)) _
theorem ent_cnt {l : List LN} (h : linesB l = true) {e : Tri × Int} (he : e ∈ mapM_ l) {k : Nat} (hk : 100 ≤ k) : impl_elementsOf.f k e.2 = some (elemsN e.2.toNat) ∧ lenM k e = cntW l e.1 := by
  have h6 := lines_len h
  obtain ⟨hin, s, hs, e2, hfar, hon⟩ := ent_set h he
  have h1 : impl_elementsOf.f k e.2 = some (elemsN e.2.toNat) := by rw [e2, elems_at hs hk, Int.toNat_natCast]
  refine ⟨h1, ?_⟩
  unfold lenM
  rw [h1, Option.getD_some, e2, Int.toNat_natCast, ← count_fin ⟨s, hs⟩ ⟨l.length, by omega⟩ (fun k hk => hfar k.val k.isLt (by simpa using hk))]
  unfold cntW
  refine foldl_same _ (fun i hi t => ?_) 0
  have hi0 := (ints_mem_iff.1 hi).1
  have hin : i < (l.length : Int) := by have := (ints_mem_iff.1 hi).2; simpa using this
  obtain ⟨k, rfl⟩ := Int.eq_ofNat_of_zero_le hi0
  unfold bitN bitOn
  rw [Int.toNat_natCast, hon k (by omega)]
theorem ent_bit {l : List LN} (h : linesB l = true) {e : Tri × Int} (he : e ∈ mapM_ l) {i : Int} (hi0 : 0 ≤ i) (hin : i < l.length) : bitM i e = bitOn l e.1 i := by
  have h6 := lines_len h
  obtain ⟨_, s, hs, e2, _, hon⟩ := ent_set h he
  obtain ⟨k, rfl⟩ := Int.eq_ofNat_of_zero_le hi0
  have := bit_fin ⟨s, hs⟩ ⟨k, by omega⟩
  unfold bitM
  rw [e2]
  refine this.trans ?_
  unfold bitN bitOn
  rw [hon k (by omega)]
/-! #### PointsOn -/
theorem wsum {α : Type} (f : α → Int) (L : List α) : ∀ s : Int, wrap64 s = s → L.foldl (fun s a => wrap64 (s + f a)) s = wrap64 (s + (L.map f).sum) := by
  induction L with
  | nil => intro s hs; simp [hs]
  | cons a L ih =>
    intro s hs
    rw [List.foldl_cons, ih _ (ww _), ww_add_l, List.map_cons, List.sum_cons, Int.add_assoc]
theorem sum_perm : ∀ {a b : List Int}, a.Perm b → a.sum = b.sum := by
  intro a b h
  induction h with
  | nil => rfl
  | cons x _ ih => rw [List.sum_cons, List.sum_cons, ih]
  | swap x y l => simp only [List.sum_cons]; omega
  | trans _ _ h1 h2 => rw [h1, h2]
def ptsOn (l : List LN) (i : Int) : Int := (ptsE l).foldl (fun s p => wrap64 (s + bitOn l p i)) 0
noncomputable def pointsOn (l : List LN) (i : Int) : Int := if linesB l = true ∧ 0 ≤ i ∧ i < l.length then ptsOn l i else -1
theorem ptsE_few (l : List LN) (h6 : l.length ≤ 6) : (ptsE l).length ≤ 15 := by
  rw [← (keys_perm l h6).length_eq, List.length_map]; exact mapM_len l h6
theorem rd6_ent (l : List LN) {x : Int} (hx0 : 0 ≤ x) (hxn : x < ((ptsE l).length : Int)) : rd_L6 ((ptsE l).map (entE l)) x = entE l ((ptsE l).getD x.toNat (0, 0, 0)) := getD_map (entE l) (ptsE l) x.toNat (0, 0, 0) [] (by omega)
theorem spec_PointsOn_ev (l : List LN) (i : Int) (hl : l.length ≤ 1099511627776) : Ev (fun k => spec_PointsOn.f k l i) (pointsOn l i) := by
  simp only [spec_PointsOn.f]
  refine Ev.bind (spec_AreLines_ev l hl) ?_
  unfold pointsOn
  cases hL : linesB l with
  | false =>
    simp only [Bool.false_eq_true, if_false, false_and]
    exact Ev.step (f := fun _ => some (-1 : Int)) (fun q => by simp only [spec_PointsOn.j0, if_true]) (Ev.now _)
  | true =>
    have hn := lines_len hL
    simp only [if_true, true_and]
    rw [w64 (by omega) (by omega), l1In_eq]
    simp only [Option.bind_some]
    by_cases hi : 0 ≤ i ∧ i < l.length
    · rw [if_pos hi]
      refine Ev.step (f := fun q => (spec_l24Points.f q l).bind fun t => spec_PointsOn.l0 q l i 0 t 0) (fun q => ?_) (Ev.bind (points_ev l hL) ?_)
      · simp only [spec_PointsOn.j0]
        rw [if_neg (by simp; omega)]
      have hfew := ptsE_few l hn.2
      refine listLoop0 (σ := Int) (ρ := Int) (l := fun q s x => spec_PointsOn.l0 q l i s ((ptsE l).map (entE l)) x) (ptsE l) ((0, 0, 0) : Tri) (T := Com.stepT fun s p => .inl (wrap64 (s + bitOn l p i))) (stepT_mono _) (C := fun s r => r = s) ?_ ?_ 0 _ ((foldT_foldl _ _ _ 0 _).2 rfl)
      · intro s x hx0 hxn r' hT
        have hT := stepT_inl hT rfl
        have hr6 := rd6_ent l hx0 hxn
        generalize (ptsE l).getD x.toNat (0, 0, 0) = e at hT hr6
        refine Ev.step (f := fun q => spec_PointsOn.l0 q l i (wrap64 (s + bitOn l e i)) ((ptsE l).map (entE l)) (x + 1)) (fun q => ?_) hT
        have r0 : rd (entE l e) 0 = e.1 := rfl
        have r1 : rd (entE l e) 1 = e.2.1 := rfl
        have r2 : rd (entE l e) 2 = e.2.2 := rfl
        have l0 : (0 : Int) < ((entE l e).length : Int) := by simp [entE]
        have l1 : (1 : Int) < ((entE l e).length : Int) := by simp [entE]
        have l2 : (2 : Int) < ((entE l e).length : Int) := by simp [entE]
        simp only [spec_PointsOn.l0]
        rw [if_pos (by rw [List.length_map]; exact hxn), hr6, if_pos hi.1, if_pos hi.2, if_pos hx0, if_pos l0, if_pos l1, if_pos l2, r0, r1, r2, bit_is, w64 (x := x + 1) (by omega) (by omega)]
        rfl
      · intro s r hC
        rw [show r = s from hC]
        exact Ev.step (f := fun _ => some s) (fun q => by simp only [spec_PointsOn.l0]; rw [if_neg (by rw [List.length_map]; omega)]) (Ev.now _)
    · rw [if_neg hi]
      exact Ev.step (f := fun _ => some (-1 : Int)) (fun q => by simp only [spec_PointsOn.j0]; rw [if_pos (by simp; omega)]) (Ev.now _)
theorem impl_PointsOn_ev (l : List LN) (i : Int) : Ev (fun k => impl_PointsOn.f k l i) (pointsOn l i) := by
  simp only [impl_PointsOn.f]
  simp only [impl_AreLines_eq, Option.bind_some]
  unfold pointsOn
  cases hL : linesB l with
  | false =>
    simp only [Bool.false_eq_true, if_false, false_and]
    exact Ev.now _
  | true =>
    have hn := lines_len hL
    simp only [if_true, true_and]
    have he : impl_isElement.f (l.length : Int) i = some (decide (0 ≤ i ∧ i < l.length)) := by
      unfold impl_isElement.f
      by_cases h0 : i ≥ 0
      · rw [if_pos h0]; congr 1; simp only [decide_eq_decide]; omega
      · rw [if_neg h0]; congr 1; symm; simp only [decide_eq_false_iff_not]; omega
    rw [he]
    simp only [Option.bind_some]
    by_cases hi : 0 ≤ i ∧ i < l.length
    · rw [if_pos hi]
      refine Ev.iteT (by simpa using hi) (Ev.iteT ⟨hi.1, by omega⟩ (Ev.bind (meetings_ev l hL) ?_))
      have : wrap64 (sumM (bitM i) (mapM_ l)) = ptsOn l i := by
        unfold ptsOn sumM
        rw [wsum (fun p => bitOn l p i) (ptsE l) 0 (w64 (by omega) (by omega)), Int.zero_add]
        congr 1
        have e1 : (mapM_ l).map (bitM i) = ((mapM_ l).map Prod.fst).map fun p => bitOn l p i := by
          rw [List.map_map]
          exact List.map_congr_left fun e he => ent_bit hL he hi.1 hi.2
        rw [e1]
        exact sum_perm ((keys_perm l hn.2).map _)
      rw [this]
      exact Ev.now _
    · rw [if_neg hi]
      exact Ev.iteF (by simpa using hi) (Ev.now _)
/-! #### MeetingRow -/
theorem sort_perm {a b : List Int} (h : a.Perm b) : (a.mergeSort fun x y => decide (x ≤ y)) = b.mergeSort fun x y => decide (x ≤ y) := by
  have srt : ∀ c : List Int, (c.mergeSort fun x y => decide (x ≤ y)).Pairwise (fun x y => decide (x ≤ y) = true) := fun c => List.pairwise_mergeSort (le := fun x y => decide (x ≤ y)) (fun a b c h h' => by simp at *; omega) (fun a b => by simp; omega) c
  refine List.Perm.eq_of_pairwise (le := fun x y => decide (x ≤ y)) ?_ (srt a) (srt b) ((List.mergeSort_perm a _).trans (h.trans (List.mergeSort_perm b _).symm))
  intro x y _ _ h3 h4
  simp at h3 h4
  omega
noncomputable def rowM (l : List LN) : List Int := ((ptsE l).map (cntW l)).mergeSort fun x y => decide (x ≤ y)
theorem rowM_length (l : List LN) (h6 : l.length ≤ 6) : (rowM l).length ≤ 15 := by
  unfold rowM
  rw [List.length_mergeSort, List.length_map]
  exact ptsE_few l h6
theorem impl_MeetingRow_ev (l : List LN) (hL : linesB l = true) : Ev (fun k => impl_MeetingRow.f k l) (rowM l) := by
  have hn := lines_len hL
  simp only [impl_MeetingRow.f]
  simp only [impl_AreLines_eq, Option.bind_some, hL, if_true]
  refine Ev.iteT (by omega) (Ev.bind (meetings_ev l hL) ?_)
  have hm := mapM_len l hn.2
  refine ⟨100, fun k hk => ?_⟩
  have hall : (mapM_ l).all (fun p => (impl_elementsOf.f k p.2).isSome) = true := by
    rw [List.all_eq_true]
    intro e he
    rw [(ent_cnt hL he hk).1]; rfl
  have e1 : (mapM_ l).map (lenM k) = ((mapM_ l).map Prod.fst).map (cntW l) := by
    rw [List.map_map]
    exact List.map_congr_left fun e he => (ent_cnt hL he hk).2
  simp only []
  rw [if_pos ⟨by omega, hall⟩, e1]
  unfold slices_Sort_int_int.f
  rw [if_pos (by simp only [List.length_map]; omega), sort_perm ((keys_perm l hn.2).map (cntW l))]
  rfl
theorem spec_MeetingRow_ev (l : List LN) (hL : linesB l = true) : Ev (fun k => spec_MeetingRow.f k l) (rowM l) := by
  have hn := lines_len hL
  have hfew := ptsE_few l hn.2
  simp only [spec_MeetingRow.f, Option.bind_some]
  refine Ev.bind (spec_AreLines_ev l (by omega)) ?_
  rw [hL]
  refine Ev.iteT rfl (Ev.bind (points_ev l hL) ?_)
  unfold rowM
  rw [← puts_eq]
  refine listLoop0 (σ := List Int) (ρ := List Int) (l := fun q s x => spec_MeetingRow.l0 q s ((ptsE l).map (entE l)) x) (ptsE l) ((0, 0, 0) : Tri) (T := putT (cntW l)) (putT_mono _) (C := fun s r => r = s) ?_ ?_ [] _ (putT_fold _ _ _ [] _ (by simp only [List.length_nil]; omega) rfl)
  · rintro s x hx0 hxn r' ⟨hs, hT⟩
    have hr6 := rd6_ent l hx0 hxn
    generalize (ptsE l).getD x.toNat (0, 0, 0) = e at hT hr6
    refine Ev.step (f := fun q => (spec_l16Put.f q s (cntW l e)).bind fun t => spec_MeetingRow.l0 q t ((ptsE l).map (entE l)) (x + 1)) (fun q => ?_) (Ev.bind (l16Put_ev s (cntW l e) (by omega)) hT)
    have r3 : rd (entE l e) 3 = cntW l e := rfl
    have l3 : (3 : Int) < ((entE l e).length : Int) := by simp [entE]
    simp only [spec_MeetingRow.l0]
    rw [if_pos (by rw [List.length_map]; exact hxn), hr6, if_pos hx0, if_pos l3, r3, w64 (x := x + 1) (by omega) (by omega)]
  · intro s r hC
    rw [show r = s from hC]
    exact Ev.step (f := fun _ => some s) (fun q => by simp only [spec_MeetingRow.l0]; rw [if_neg (by rw [List.length_map]; omega)]) (Ev.now _)
/-! #### what the row's numbers come to, less one each -/
def stepR (s x : Int) : Int := wrap64 (wrap64 (s + x) - 1)
noncomputable def restM (l : List LN) : Int := (rowM l).foldl stepR 0
theorem spec_l24Rest_ev (l : List LN) (hL : linesB l = true) : Ev (fun k => spec_l24Rest.f k l) (restM l) := by
  have hn := lines_len hL
  have hr := rowM_length l hn.2
  simp only [spec_l24Rest.f]
  refine Ev.bind (spec_MeetingRow_ev l hL) ?_
  unfold restM
  generalize rowM l = R at hr
  refine listLoop0 (σ := Int) (ρ := Int) (l := fun q s x => spec_l24Rest.l0 q s R x) R (0 : Int) (T := Com.stepT fun s x => .inl (stepR s x)) (stepT_mono _) (C := fun s r => r = s) ?_ ?_ 0 _ ((foldT_foldl _ _ _ 0 _).2 rfl)
  · intro s x hx0 hxn r' hT
    have hT := stepT_inl hT rfl
    refine Ev.step (f := fun q => spec_l24Rest.l0 q (stepR s (rd R x)) R (x + 1)) (fun q => ?_) hT
    simp only [spec_l24Rest.l0]
    rw [if_pos hxn, if_pos hx0, w64 (x := x + 1) (by omega) (by omega)]
    rfl
  · intro s r hC
    rw [show r = s from hC]
    exact Ev.step (f := fun _ => some s) (fun q => by simp only [spec_l24Rest.l0]; rw [if_neg (by omega)]) (Ev.now _)
theorem impl_excess_ev (l : List LN) (hL : linesB l = true) : Ev (fun k => impl_excess.f k l) (restM l) := by
  have hn := lines_len hL
  have hr := rowM_length l hn.2
  simp only [impl_excess.f]
  refine Ev.bind (impl_MeetingRow_ev l hL) ?_
  unfold restM
  generalize rowM l = R at hr
  refine listLoop0 (σ := Int) (ρ := Int) (l := fun q s x => impl_excess.l0 q s R (R.length : Int) x) R (0 : Int) (T := Com.stepT fun s x => .inl (stepR s x)) (stepT_mono _) (C := fun s r => r = s) ?_ ?_ 0 _ ((foldT_foldl _ _ _ 0 _).2 rfl)
  · intro s x hx0 hxn r' hT
    have hT := stepT_inl hT rfl
    refine Ev.step (f := fun q => impl_excess.l0 q (stepR s (rd R x)) R (R.length : Int) (x + 1)) (fun q => ?_) hT
    simp only [impl_excess.l0]
    rw [if_pos hxn, if_pos hx0, if_pos hxn, w64 (x := x + 1) (by omega) (by omega)]
    rfl
  · intro s r hC
    rw [show r = s from hC]
    exact Ev.step (f := fun _ => some s) (fun q => by simp only [impl_excess.l0]; rw [if_neg (by omega)]) (Ev.now _)
noncomputable def linePoly (l : List LN) : List Int := if linesB l = true then [restM l, wrap64 (-(l.length : Int)), 1] else []
theorem spec_LinePoly_ev (l : List LN) (hl : l.length ≤ 1099511627776) : Ev (fun k => spec_LinePoly.f k l) (linePoly l) := by
  simp only [spec_LinePoly.f]
  refine Ev.bind (spec_AreLines_ev l hl) ?_
  unfold linePoly
  cases hL : linesB l with
  | false => exact Ev.iteF (by decide) (Ev.now _)
  | true => exact Ev.iteT rfl (Ev.bind (spec_l24Rest_ev l hL) (Ev.now _))
theorem impl_LinePoly_ev (l : List LN) : Ev (fun k => impl_LinePoly.f k l) (linePoly l) := by
  simp only [impl_LinePoly.f]
  simp only [impl_AreLines_eq, Option.bind_some]
  unfold linePoly
  cases hL : linesB l with
  | false => exact Ev.iteF (by decide) (Ev.now _)
  | true => exact Ev.iteT rfl (Ev.bind (impl_excess_ev l hL) (Ev.now _))
noncomputable def polyAt (l : List LN) (p : Int) : Int := if linesB l = true ∧ inB p 1000 = true then wrap64 (wrap64 (restM l + wrap64 (wrap64 (-(l.length : Int)) * p)) + wrap64 (p * p)) else 0
theorem spec_PolyAtPrime_ev (l : List LN) (p : Int) (hl : l.length ≤ 1099511627776) : Ev (fun k => spec_PolyAtPrime.f k l p) (polyAt l p) := by
  simp only [spec_PolyAtPrime.f]
  refine Ev.bind (spec_LinePoly_ev l hl) ?_
  unfold polyAt linePoly
  cases hL : linesB l with
  | false => exact Ev.iteT (by simp) (by simpa using Ev.now (0 : Int))
  | true =>
    simp only [if_true, true_and]
    refine Ev.iteF (by simp) ?_
    have e : spec_l1In.f p (-1000) 1000 = some (inB p 1000) := l1In_eq p (-1000) 1000
    rw [e]
    simp only [Option.bind_some]
    by_cases hp : inB p 1000 = true
    · refine Ev.iteT hp (Ev.iteT (by simp) (Ev.iteT (by simp) ?_))
      rw [if_pos hp]
      exact Ev.now _
    · refine Ev.iteF hp ?_
      rw [if_neg hp]
      exact Ev.now _
theorem impl_PolyAtPrime_ev (l : List LN) (p : Int) : Ev (fun k => impl_PolyAtPrime.f k l p) (polyAt l p) := by
  simp only [impl_PolyAtPrime.f]
  simp only [impl_AreLines_eq, Option.bind_some]
  unfold polyAt
  cases hL : linesB l with
  | false =>
    refine Ev.iteF (by decide) ?_
    simpa using Ev.now (0 : Int)
  | true =>
    refine Ev.iteT rfl ?_
    have e : impl_isFar.f p 1000 = some (!inB p 1000) := by
      unfold impl_isFar.f inB
      rw [w64 (by omega) (by omega)]
      by_cases h : p < -1000
      · rw [if_pos h]; congr 1; symm; simp; omega
      · rw [if_neg h]; congr 1; rw [Bool.eq_iff_iff]; simp; omega
    rw [e]
    simp only [Option.bind_some, true_and]
    by_cases hp : inB p 1000 = true
    · rw [if_pos hp]
      refine Ev.iteF (by simp [hp]) (Ev.bind (impl_excess_ev l hL) ?_)
      have : wrap64 (restM l - wrap64 ((l.length : Int) * p)) = wrap64 (restM l + wrap64 (wrap64 (-(l.length : Int)) * p)) := by
        rw [ww_sub_r, ww_mul_l, ww_add_r, Int.neg_mul]
        rfl
      rw [this]
      exact Ev.now _
    · rw [if_neg hp]
      exact Ev.iteT (by simpa using hp) (Ev.now _)
end Go.Proofs.Ytldcckcljjlglaa.Pure

namespace Go.Proofs.Ytldcckcljjlglaa.Pure
open Go.RowKit Go.Proofs.Ytldcckcljjlglaa.P Go.Proofs.YtldcckcljjlglaaW.PrintWords Go.Proofs.YtldcckcljjlglaaW.PrintLast Go.Proofs.Ytldcckcljjlglaa.Com
set_option linter.unusedSimpArgs false
set_option linter.unusedVariables false

theorem FnExactPointsOn : laws_FnExactPointsOn.Pure := by
  rintro x p ⟨hm, _⟩ _
  apply Ev.rounds
  simp only [laws_FnExactPointsOn.f, szLineS_eq x hm, Option.bind_some]
  by_cases h : x.length ≤ 1048576
  · rw [if_pos h]
    refine Ev.iteF (by omega) ?_
    have hl : (x.map convLine).length ≤ 1048576 := by simpa using h
    refine Ev.bind (toLineS_eq x h) (Ev.bind (spec_PointsOn_ev _ p (by omega)) (Ev.bind (toLineS_eq x h) (Ev.bind (impl_PointsOn_ev _ p) (Ev.iteT rfl (Ev.bind (toLineS_eq x h) (Ev.bind (eqLineS_refl _ (by omega)) (Ev.iteT rfl (Ev.now true))))))))
  · rw [if_neg h]
    exact Ev.iteT (by omega) (Ev.now true)
end Go.Proofs.Ytldcckcljjlglaa.Pure

namespace Go.Proofs.Ytldcckcljjlglaa.Opn
open Go Go.Deep Go.ChangeShapes Go.WideShapes Go.Proofs.YtldcckcljjlglaaW.PrintWords

section
variable {H : Type} (enc : TypeId × Value → H) (P : Program) (w : World) (base : Nat) (spare : Nat → Bool) (held : Bool)
/-- Whatever is read at type t is told by the kind d, and Q holds of it. -/
def Opens {α : Type} (d : Kd α) (t : TypeId) (Q : α → Prop) : Prop :=
  ∀ (fuel : Nat) (cs : List Value) (x : DataW H × List MemPlace), DataW.trod enc P w base spare held fuel t cs = some x → ∃ a, d.K w a cs ∧ Q a
end
section
variable {H : Type} {enc : TypeId × Value → H} {P : Program} {w : World} {base : Nat} {spare : Nat → Bool} {held : Bool}
theorem opens_int {t : TypeId} {k : IntKind} (ht : P.underlying t = some (.int k)) : Opens enc P w base spare held (Kd.int k) t (fun n => (Lit.int k n).wf = true) := fun fuel cs x h => by
  obtain ⟨n, rfl, _, hw⟩ := DataW.trod_int ht h
  exact ⟨n, rfl, hw⟩
theorem opens_bool {t : TypeId} (ht : P.underlying t = some .bool) : Opens enc P w base spare held Kd.bool t (fun _ => True) := fun fuel cs x h => by
  obtain ⟨n, rfl, _⟩ := DataW.trod_bool ht h
  exact ⟨n, rfl, trivial⟩
theorem opens_string {t : TypeId} (ht : P.underlying t = some .string) : Opens enc P w base spare held Kd.string t (fun s => s.size ≤ maxLen) := fun fuel cs x h => by
  obtain ⟨n, rfl, _, hs⟩ := DataW.trod_string ht h
  exact ⟨n, rfl, hs⟩
theorem opens_iso {α β : Type} {d : Kd α} {t : TypeId} {Q : α → Prop} (h : Opens enc P w base spare held d t Q) (f : β → α) (g : α → β) (hfg : ∀ a, f (g a) = a) : Opens enc P w base spare held (Kd.iso d f) t (fun b => Q (f b)) := fun fuel cs x hx => by
  obtain ⟨a, hK, hQ⟩ := h fuel cs x hx
  exact ⟨g a, by show d.K w (f (g a)) cs; rw [hfg]; exact hK, by show Q (f (g a)); rw [hfg]; exact hQ⟩
/-- A list of fields, one behind the other, from the cell o on. -/
def OpensFs (enc : TypeId × Value → H) (P : Program) (w : World) (base : Nat) (spare : Nat → Bool) (held : Bool) {α : Type} (d : Kd α) (o : Nat) (fs : List Field) (Q : α → Prop) : Prop :=
  ∀ (n : Nat) (cs : List Value), cs.length = o + d.sz → (∀ f ∈ fs, ∃ x, DataW.trod enc P w base spare held n f.type ((cs.drop f.offset).take (P.cellsOf f.type)) = some x) → ∃ a, d.K w a (cs.drop o) ∧ Q a
theorem opensFs_one {α : Type} {d : Kd α} {o : Nat} {f : Field} {Q : α → Prop} (h : Opens enc P w base spare held d f.type Q) (ho : f.offset = o) (hc : P.cellsOf f.type = d.sz) : OpensFs enc P w base spare held d o [f] Q := by
  intro n cs hl hf
  obtain ⟨x, hx⟩ := hf f (by simp)
  obtain ⟨a, hK, hQ⟩ := h n _ x hx
  refine ⟨a, ?_, hQ⟩
  rwa [ho, hc, List.take_of_length_le (by rw [List.length_drop]; omega)] at hK
theorem opensFs_cons {α β : Type} {d : Kd α} {e : Kd β} {o : Nat} {f : Field} {fs : List Field} {Q : α → Prop} {R : β → Prop} (h : Opens enc P w base spare held d f.type Q) (hs : OpensFs enc P w base spare held e (o + d.sz) fs R) (ho : f.offset = o) (hc : P.cellsOf f.type = d.sz) :
    OpensFs enc P w base spare held (Kd.pair d e) o (f :: fs) (fun x => Q x.1 ∧ R x.2) := by
  intro n cs hl hf
  have hz : (Kd.pair d e).sz = d.sz + e.sz := rfl
  rw [hz] at hl
  obtain ⟨x, hx⟩ := hf f (by simp)
  obtain ⟨a, hK, hQ⟩ := h n _ x hx
  obtain ⟨b, hK', hR⟩ := hs n cs (by omega) (fun g hg => hf g (by simp [hg]))
  rw [ho, hc] at hK
  refine ⟨(a, b), ⟨(cs.drop o).take d.sz, cs.drop (o + d.sz), ?_, hK, hK'⟩, hQ, hR⟩
  rw [← List.drop_drop, List.take_append_drop]
theorem opens_struct {α : Type} {d : Kd α} {t : TypeId} {fs : Array Field} {Q : α → Prop} (ht : P.underlying t = some (.struct fs)) (hc : P.cellsOf t = d.sz) (h : OpensFs enc P w base spare held d 0 fs.toList Q) : Opens enc P w base spare held d t Q := fun fuel cs x hx => by
  obtain ⟨xs, n, rfl, rfl, hl, hlen, hf⟩ := DataW.trod_struct ht hx
  obtain ⟨a, hK, hQ⟩ := h n cs (by omega) (fun f hm => by
    obtain ⟨i, hi, rfl⟩ := List.mem_iff_getElem.1 hm
    have hi' : i < fs.size := by simpa using hi
    have := hf i fs[i] (by simp [hi'])
    rw [List.getElem?_eq_getElem (by omega)] at this
    exact ⟨_, by simpa using this⟩)
  exact ⟨a, by simpa using hK, hQ⟩
theorem opens_slice {α : Type} {d : Kd α} {t e : TypeId} {Q : α → Prop} (ht : P.underlying t = some (.slice e)) (hc : P.cellsOf e = d.sz) (h : Opens enc P w base spare held d e Q) :
    Opens enc P w base spare held (Kd.slice e d) t (fun xs => xs.length ≤ maxLen ∧ ∀ x ∈ xs, Q x) := fun fuel cs x hx => by
  rcases open_slice ht hx with ⟨rfl, _⟩ | ⟨a, len, cap, m, n, D, Pl, rfl, _, hl, hm, hmm, _, hel⟩
  · exact ⟨[], ⟨none, 0, rfl, Nat.le_refl _, ⟨rfl, by simp, fun h => by simp at h⟩⟩, by simp⟩
  have hlm : len ≤ m := by rw [hmm]; split <;> omega
  have hi : ∀ i : Fin len, ∃ y : α, (∃ cs', w.cells? base (a.add (i.val * P.cellsOf e)) (P.cellsOf e) = some cs' ∧ d.K w y cs') ∧ Q y := fun i => by
    obtain ⟨cs', h1, h2⟩ := hel i.val (by omega)
    obtain ⟨y, hK, hQ⟩ := h _ _ _ h2
    exact ⟨y, ⟨cs', h1, hK⟩, hQ⟩
  let f : Fin len → α := fun i => Classical.choose (hi i)
  have hfs : ∀ i : Fin len, (∃ cs', w.cells? base (a.add (i.val * P.cellsOf e)) (P.cellsOf e) = some cs' ∧ d.K w (f i) cs') ∧ Q (f i) := fun i => Classical.choose_spec (hi i)
  have hlen : (List.ofFn f).length = len := by simp
  have hmax : cap ≤ 9223372036854775807 := by unfold maxLen at hm; omega
  refine ⟨List.ofFn f, ⟨some a, cap, by rw [hlen], by omega, ⟨rfl, by omega, fun _ => ⟨a, rfl, fun j p hj => ?_⟩⟩⟩, by omega, fun y hy => ?_⟩
  · obtain ⟨hj', rfl⟩ := List.getElem?_eq_some_iff.1 hj
    obtain ⟨⟨cs', h1, hK⟩, _⟩ := hfs ⟨j, by omega⟩
    obtain ⟨_, hcl, hcell⟩ := World.cells?_some h1
    refine ⟨cs', by omega, by simpa using hK, fun i u hu => ?_⟩
    have hiu : i < P.cellsOf e := by
      have := (List.getElem?_eq_some_iff.1 hu).1
      omega
    have := hcell i hiu
    rw [Go.Deep.add_add, hu, hc] at this
    exact this
  · obtain ⟨i, rfl⟩ := (List.mem_ofFn).1 hy
    exact (hfs i).2
end
end Go.Proofs.Ytldcckcljjlglaa.Opn

namespace Go.Proofs.Ytldcckcljjlglaa.fnExactPointsOn
open Go.ChangeShapes Go.WideShapes Go.ChangeAt Go.RowKit Go.Proofs.Ytldcckcljjlglaa.P Go.Proofs.Ytldcckcljjlglaa.Opn Go.Proofs.YtldcckcljjlglaaW.PrintWords
open Go.ChangeMaps (open_string shut_string)
set_option linter.unusedVariables false
set_option linter.unusedSimpArgs false
theorem own : ownKnob Try.prog.godebug = none := by kernel_rfl
theorem laidOut : laidOutB Try.prog = true := by kernel_rfl
set_option maxRecDepth 100000 in
theorem lifted (os : Os) (started : os.Started) (H : Type) (enc : TypeId × Value → H) :
  ReturnsInHanded {} Try.checked os 5 .any (Rows.fnExactPointsOnSpec.pre6 enc Try.prog Try.f5 Rows.fnExactPointsOnRow.domain false) (Rows.fnExactPointsOnSpec.post enc Try.prog Try.f5 false true false false) := by
 refine returnsInHanded_of_change_sized (C := Try.checked) own started (by kernel_rfl) Try.func5
  (ChangeSpec.witness6 (enc := enc) (C := Try.checked) false ⟨#[], #[.slice none 0 0, .int .i64 0], []⟩ 8 (by kernel_rfl) (by kernel_rfl) (by kernel_rfl) (by kernel_rfl)) ?_
 intro W base args ds gs before hval0 hW hcnd hsz0 _
 have hval : ∀ (j : Nat) t v, Try.f5.params[j]? = some t → args[j]? = some v → Value.okWide Try.prog W .any base t v := hval0
 have hW' := hW
 obtain ⟨p, q, hA0, hV, rfl, hfz, hnd⟩ := hW
 have hA : DataW.TrodAll enc Try.prog W 0 (fun _ => true) true Try.f5.params.toList args.toList ds p := hA0
 rw [Try.params5] at hA hval
 obtain ⟨v0, vs0, d0, ds0, p0, q0, hargs, rfl, rfl, h0, r0⟩ := trodAll_cons hA
 obtain ⟨v1, vs1, d1, ds1, p1, q1, rfl, rfl, rfl, h1, r1⟩ := trodAll_cons r0
 obtain ⟨rfl, rfl, rfl⟩ := trodAll_nil r1
 obtain rfl : args = #[v0, v1] := by cases args; simp_all
 obtain ⟨rfl, rfl⟩ := trodVars_none hV
 have k0 := h0
 have lt0 : ∀ x ∈ p0, x.block < W.heap.size := by obtain ⟨m, hm⟩ := k0; exact DataW.trod_lt m _ _ _ hm
 obtain ⟨a0, len0, cap0, rfl⟩ := okWide_slice Try.underlying22 (hval 0 22 v0 rfl rfl)
 obtain ⟨x0, ⟨A0, c0, e0, hc0, hC0⟩, y0⟩ : ∃ xs : List (S85), (Kd.slice 85 k85).K W xs [.slice a0 len0 cap0] ∧ (xs.length ≤ maxLen ∧ ∀ y0 ∈ xs, ((Lit.int .i64 y0.f0).wf = true ∧ (Lit.int .i64 y0.f1).wf = true ∧ (Lit.int .i64 y0.f2).wf = true)) := by obtain ⟨m, hm⟩ := h0; exact (opens_slice Try.underlying22 (by kernel_rfl) (opens_iso (opens_struct Try.underlying85 (by kernel_rfl) (opensFs_cons (opens_int Try.underlying3) (opensFs_cons (opens_int Try.underlying3) (opensFs_one (opens_int Try.underlying3) rfl (by kernel_rfl)) rfl (by kernel_rfl)) rfl (by kernel_rfl))) (fun x : S85 => (x.f0, x.f1, x.f2)) (fun a => (⟨a.1, a.2.1, a.2.2⟩ : S85)) (fun _ => rfl))) m _ _ hm
 simp only [List.cons.injEq, Value.slice.injEq, and_true] at e0
 obtain ⟨rfl, rfl, rfl⟩ := e0
 obtain ⟨x1, rfl, rfl, rfl, y1⟩ := open_int Try.underlying3 (hval 1 3 v1 rfl rfl) h1
 clear hA0 hval0 hsz0
 obtain ⟨k, hP⟩ := Pure.FnExactPointsOn x0 x1 y0 y1
 refine (laws_FnExactPointsOn.calls k _ _ x0 x1 true W hC0 hc0 hP).mono ?_
 rintro e W' ⟨he, bel0⟩
 have bel : Below W.heap.size W W' := bel0
 subst he
 exact ⟨_, rfl, _, _, _, [], _, [], hW', trodAll_mk1 (shut_bool Try.underlying4 _), (trodAll_cons_mk (Below.trod laidOut (by kernel_rfl) (of_decide_eq_true (by kernel_rfl)) k0 bel lt0) (trodAll_cons_mk (shut_int Try.underlying3 y1) trodAll_mk0)), rfl, bel.frame _, fun h => by cases h⟩
theorem over : Rows.fnExactPointsOnRow.holds Try.pinned (OpenSpec.ofChange Rows.fnExactPointsOnSpec) :=
 OpenClaim.holds_of_wide 5 Try.f5 rfl rfl rfl rfl rfl rfl rfl ⟨rfl, rfl, rfl, rfl, rfl⟩ rfl rfl rfl rfl rfl (by kernel_rfl) Try.func5 (by kernel_rfl)
  (of_decide_eq_true (by kernel_rfl)) (by unfold Func.isWrapper; first | (rw [if_pos (by decide +kernel)]; kernel_rfl) | (rw [if_neg (by decide +kernel)]; exact ⟨rfl, rfl⟩))
  (fun os started H enc _ => lifted os started H enc)
theorem proved : Rows.FnExactPointsOnSaid := over
#print axioms proved
end Go.Proofs.Ytldcckcljjlglaa.fnExactPointsOn
namespace Go.Proofs.Ytldcckcljjlglaa
/-- The row, under a short name, for the claim. -/
theorem fnExactPointsOn_holds : Rows.FnExactPointsOnSaid := fnExactPointsOn.proved
end Go.Proofs.Ytldcckcljjlglaa

