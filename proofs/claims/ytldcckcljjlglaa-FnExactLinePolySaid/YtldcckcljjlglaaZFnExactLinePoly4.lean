/- For every list of lines the program's LinePoly returns what the reference's returns, a new list, and leaves the list of lines as it was; no condition. -/
import Derived.Test.YtldcckcljjlglaaZFnExactLinePoly3
import Derived.Test.YtldcckcljjlglaaRows
import Derived.Test.YtldcckcljjlglaaProg
import Derived.Below
import Derived.Deep.Draws
import Derived.Deep.AppendLies
import Derived.Maps.AppendAt
import Derived.OwnWalk
import Derived.Laws.BytesArg
import Derived.Laws.MakeOwn
import Derived.Laws.OwnMore
import Derived.Deep.OwnRows
import Derived.Tactics
import Derived.Lib.ConvBytes
import Derived.Laws.Slices
import Derived.WalkKit
import Derived.KernelRfl
import Derived.RowKit3
import Derived.Deep.LoopGhost
import Derived.Deep.QuietTactic
import Derived.BigQuiet
import Derived.WideLaws
import Derived.Deep.DeepCutAuto
import Derived.Deep.CutBlock
import Derived.Deep.RegionHeld3
import Derived.Laws.Rows
import Derived.Lib.AppendStr
import Derived.ArgAppend
import Derived.Laws.IdiomCopy
import Derived.OrdersHeld
import Derived.Laws.BitsLemmas
import Derived.RowKit
import Derived.Shelf.Abstract
import Derived.Test.YtldcckcljjlglaaWWords
import Derived.Test.YtldcckcljjlglaaWLast
import Derived.Test.YtldcckcljjlglaaWTab
import Derived.Test.YtldcckcljjlglaaWQPut
import Derived.Test.YtldcckcljjlglaaWApart
import Derived.Test.YtldcckcljjlglaaWArr
import Derived.Test.YtldcckcljjlglaaWZeros
import Derived.Test.YtldcckcljjlglaaWFoot
import Derived.Test.YtldcckcljjlglaaWKept
import Derived.Test.YtldcckcljjlglaaWShare
import Derived.Test.YtldcckcljjlglaaWN
import Derived.Test.YtldcckcljjlglaaWEqStruct
import Derived.Test.YtldcckcljjlglaaWRepsOne
import Derived.Test.YtldcckcljjlglaaWNEv
import Derived.Test.YtldcckcljjlglaaWMore
import Derived.DeepKeys4
import Derived.Maps.Ext
import Derived.Maps.RangeWalk
import Derived.Maps.OwnOps
import Derived.OpenShut
import Derived.Shelf.Sort.Plain
import Derived.Shelf.Slices.SearchI
import Derived.Shelf.Slices.In.SortNone
import Derived.Deep.Slices
import Derived.ChangeOld
import Derived.Carry
import Derived.ProofKit
import Derived.ShutString
import Derived.SizedLaws
namespace Go.Proofs.Ytldcckcljjlglaa.Pure
open Go.RowKit Go.Proofs.Ytldcckcljjlglaa.P Go.Proofs.YtldcckcljjlglaaW.PrintWords Go.Proofs.YtldcckcljjlglaaW.PrintLast Go.Proofs.Ytldcckcljjlglaa.Com
set_option linter.unusedSimpArgs false
set_option linter.unusedVariables false

section
variable {l : List LN} (h : linesB l = true)
include h
theorem pts_low {p : Tri} (hp : p ∈ ptsE l) : lowT p ∧ (p.1.natAbs ≤ 800 ∧ p.2.1.natAbs ≤ 800 ∧ p.2.2.natAbs ≤ 800) := by
  obtain ⟨q, hq, hn, rfl⟩ := ((ptsE_spec l).2 p).1 hp
  have hq := prs_mem.1 hq
  exact ⟨meet_low hn, pt_small h hq.1 hq.2.1 hq.2.2 hn⟩
omit h in
theorem on_pair {p : Tri} (hp : lowT p) {i j : Int} (h0 : 0 ≤ j) (hj : j < i) (hi : i < l.length) (hn : rawD (ln l i) (ln l j) ≠ 0) (h1 : onL (ln l i) p) (h2 : onL (ln l j) p) : ∃ q ∈ prs l.length, ¬ parQ l q ∧ ptQ l q = p ∧ (i = q.1 ∨ i = q.2) ∧ (j = q.1 ∨ j = q.2) :=
  ⟨(i, j), prs_mem.2 ⟨h0, hj, hi⟩, hn, (meet_only hn hp h1 h2).symm, .inl rfl, .inr rfl⟩
theorem on_iff {p : Tri} (hp : p ∈ ptsE l) {k : Int} (hk0 : 0 ≤ k) (hkn : k < l.length) : (∃ q ∈ prs l.length, ¬ parQ l q ∧ ptQ l q = p ∧ (k = q.1 ∨ k = q.2)) ↔ onL (ln l k) p := by
  have hlow := (pts_low h hp).1
  constructor
  · rintro ⟨q, hq, hn, rfl, hk⟩
    have hm := meet_on (a := ln l q.1) (b := ln l q.2) hn
    rcases hk with rfl | rfl
    · exact hm.1
    · exact hm.2
  · intro hon
    obtain ⟨q, hq, hn, rfl⟩ := ((ptsE_spec l).2 p).1 hp
    have hq := prs_mem.1 hq
    have hm := meet_on (a := ln l q.1) (b := ln l q.2) hn
    have hc := (line_small h hk0 hkn).2
    have key : ∀ m : Int, 0 ≤ m → m < l.length → onL (ln l m) (ptQ l q) → rawD (ln l k) (ln l m) ≠ 0 → ∃ x ∈ prs l.length, ¬ parQ l x ∧ ptQ l x = ptQ l q ∧ (k = x.1 ∨ k = x.2) := by
      intro m hm0 hmn hmo hd
      rcases Int.lt_trichotomy m k with hlt | rfl | hlt
      · obtain ⟨x, a, b, c, d, e⟩ := on_pair hlow hm0 hlt hkn hd hon hmo
        exact ⟨x, a, b, c, d⟩
      · exact absurd (by unfold rawD; rw [Int.mul_comm]; omega) hd
      · have hd' : rawD (ln l m) (ln l k) ≠ 0 := by rw [rawD_swap]; omega
        obtain ⟨x, a, b, c, d, e⟩ := on_pair hlow hk0 hlt hmn hd' hmo hon
        exact ⟨x, a, b, c, e⟩
    rcases par_one (a := ln l q.1) (b := ln l q.2) hn hc with hd | hd
    · exact key q.1 (by omega) (by omega) hm.1 hd
    · exact key q.2 (by omega) (by omega) hm.2 hd
omit h in
theorem on_far {p : Tri} {k : Int} (hk : (l.length : Int) ≤ k) : ¬ ∃ q ∈ prs l.length, ¬ parQ l q ∧ ptQ l q = p ∧ (k = q.1 ∨ k = q.2) := by
  rintro ⟨q, hq, _, _, hk'⟩
  have := prs_mem.1 hq
  omega
/-- An entry's set tells which lines are on its point. -/
theorem ent_set {e : Tri × Int} (he : e ∈ mapM_ l) : e.1 ∈ ptsE l ∧ ∃ s : Nat, s < 64 ∧ e.2 = (s : Int) ∧ (∀ k : Nat, k < 6 → l.length ≤ k → s.testBit k = false) ∧ ∀ k : Nat, k < l.length → s.testBit k = onW (ln l (k : Int)) e.1 := by
  have h6 := lines_len h
  obtain ⟨m1, m2, m3⟩ := mapM_spec l h6.2
  have hin : e.1 ∈ ptsE l := ((ptsE_spec l).2 _).2 ((m2 _).1 ⟨e, he, rfl⟩)
  refine ⟨hin, ?_⟩
  obtain ⟨s, h1, h2, h3⟩ := m3 e he
  refine ⟨s, h1, h2, fun k hk hn => ?_, fun k hk => ?_⟩
  · rw [Bool.eq_false_iff]
    intro ht
    exact on_far (k := (k : Int)) (by omega) ((h3 k hk).1 ht)
  · rw [Bool.eq_iff_iff, h3 k (by omega), on_iff h hin (by omega) (by omega), onW_eq (line_small h (by omega) (by omega)).1 (pts_low h hin).2]
end
/-! #### sets below 64 -/
def bitN (s : Nat) (k : Nat) : Int := if s.testBit k = true then 1 else 0
set_option maxRecDepth 100000 in
theorem bit_fin : ∀ (s : Fin 64) (k : Fin 6), Go.bits .and .i64 ((s.val : Int) / 2 ^ min ((k.val : Int)).toNat 64) 1 = bitN s.val k.val := by decide +kernel
def elemsN (s : Nat) : List Int := ((List.range 6).filter fun k => s.testBit k).map (Int.ofNat)
set_option maxRecDepth 100000 in
theorem elems_fin : ∀ s : Fin 64, impl_elementsOf.f 100 (s.val : Int) = some (elemsN s.val) := by decide +kernel
theorem elems_at {s : Nat} (hs : s < 64) {k : Nat} (hk : 100 ≤ k) : impl_elementsOf.f k (s : Int) = some (elemsN s) :=
  at_rounds (g := fun k => impl_elementsOf.f k (s : Int)) (impl_elementsOf.mono _) hk (elems_fin ⟨s, hs⟩)
set_option maxRecDepth 100000 in
theorem count_fin : ∀ (s : Fin 64) (n : Fin 7), (∀ k : Fin 6, n.val ≤ k.val → s.val.testBit k.val = false) → (ints 0 n.val).foldl (fun t i => wrap64 (t + bitN s.val i.toNat)) 0 = ((elemsN s.val).length : Int) := by decide +kernel
theorem foldl_same {α β : Type} {f g : β → α → β} (L : List α) (h : ∀ a ∈ L, ∀ b, f b a = g b a) : ∀ b, L.foldl f b = L.foldl g b := by
  induction L with
  | nil => intro b; rfl
  | cons a L ih =>
    intro b
    rw [List.foldl_cons, List.foldl_cons, h a List.mem_cons_self b]
    exact ih (fun a' ha => h a' (List.mem_cons_of_mem _ ha)) _
theorem ent_cnt {l : List LN} (h : linesB l = true) {e : Tri × Int} (he : e ∈ mapM_ l) {k : Nat} (hk : 100 ≤ k) : impl_elementsOf.f k e.2 = some (elemsN e.2.toNat) ∧ lenM k e = cntW l e.1 := by
  have h6 := lines_len h
  obtain ⟨hin, s, hs, e2, hfar, hon⟩ := ent_set h he
  have h1 : impl_elementsOf.f k e.2 = some (elemsN e.2.toNat) := by rw [e2, elems_at hs hk, Int.toNat_natCast]
  refine ⟨h1, ?_⟩
  unfold lenM
  rw [h1, Option.getD_some, e2, Int.toNat_natCast, ← count_fin ⟨s, hs⟩ ⟨l.length, by omega⟩ (fun k hk => hfar k.val k.isLt (by simpa using hk))]
  unfold cntW
  refine foldl_same _ (fun i hi t => ?_) 0
  have hi0 := (ints_mem_iff.1 hi).1
  have hin : i < (l.length : Int) := by have := (ints_mem_iff.1 hi).2; simpa using this
  obtain ⟨k, rfl⟩ := Int.eq_ofNat_of_zero_le hi0
  unfold bitN bitOn
  rw [Int.toNat_natCast, hon k (by omega)]
theorem ent_bit {l : List LN} (h : linesB l = true) {e : Tri × Int} (he : e ∈ mapM_ l) {i : Int} (hi0 : 0 ≤ i) (hin : i < l.length) : bitM i e = bitOn l e.1 i := by
  have h6 := lines_len h
  obtain ⟨_, s, hs, e2, _, hon⟩ := ent_set h he
  obtain ⟨k, rfl⟩ := Int.eq_ofNat_of_zero_le hi0
  have := bit_fin ⟨s, hs⟩ ⟨k, by omega⟩
  unfold bitM
  rw [e2]
  refine this.trans ?_
  unfold bitN bitOn
  rw [hon k (by omega)]
/-! #### PointsOn -/
theorem wsum {α : Type} (f : α → Int) (L : List α) : ∀ s : Int, wrap64 s = s → L.foldl (fun s a => wrap64 (s + f a)) s = wrap64 (s + (L.map f).sum) := by
  induction L with
  | nil => intro s hs; simp [hs]
  | cons a L ih =>
    intro s hs
    rw [List.foldl_cons, ih _ (ww _), ww_add_l, List.map_cons, List.sum_cons, Int.add_assoc]
theorem sum_perm : ∀ {a b : List Int}, a.Perm b → a.sum = b.sum := by
  intro a b h
  induction h with
  | nil => rfl
  | cons x _ ih => rw [List.sum_cons, List.sum_cons, ih]
  | swap x y l => simp only [List.sum_cons]; omega
  | trans _ _ h1 h2 => rw [h1, h2]
def ptsOn (l : List LN) (i : Int) : Int := (ptsE l).foldl (fun s p => wrap64 (s + bitOn l p i)) 0
noncomputable def pointsOn (l : List LN) (i : Int) : Int := if linesB l = true ∧ 0 ≤ i ∧ i < l.length then ptsOn l i else -1
theorem ptsE_few (l : List LN) (h6 : l.length ≤ 6) : (ptsE l).length ≤ 15 := by
  rw [← (keys_perm l h6).length_eq, List.length_map]; exact mapM_len l h6
theorem rd6_ent (l : List LN) {x : Int} (hx0 : 0 ≤ x) (hxn : x < ((ptsE l).length : Int)) : rd_L6 ((ptsE l).map (entE l)) x = entE l ((ptsE l).getD x.toNat (0, 0, 0)) := getD_map (entE l) (ptsE l) x.toNat (0, 0, 0) [] (by omega)
theorem spec_PointsOn_ev (l : List LN) (i : Int) (hl : l.length ≤ 1099511627776) : Ev (fun k => spec_PointsOn.f k l i) (pointsOn l i) := by
  simp only [spec_PointsOn.f]
  refine Ev.bind (spec_AreLines_ev l hl) ?_
  unfold pointsOn
  cases hL : linesB l with
  | false =>
    simp only [Bool.false_eq_true, if_false, false_and]
    exact Ev.step (f := fun _ => some (-1 : Int)) (fun q => by simp only [spec_PointsOn.j0, if_true]) (Ev.now _)
  | true =>
    have hn := lines_len hL
    simp only [if_true, true_and]
    rw [w64 (by omega) (by omega), l1In_eq]
    simp only [Option.bind_some]
    by_cases hi : 0 ≤ i ∧ i < l.length
    · rw [if_pos hi]
      refine Ev.step (f := fun q => (spec_l24Points.f q l).bind fun t => spec_PointsOn.l0 q l i 0 t 0) (fun q => ?_) (Ev.bind (points_ev l hL) ?_)
      · simp only [spec_PointsOn.j0]
        rw [if_neg (by simp; omega)]
      have hfew := ptsE_few l hn.2
      refine listLoop0 (σ := Int) (ρ := Int) (l := fun q s x => spec_PointsOn.l0 q l i s ((ptsE l).map (entE l)) x) (ptsE l) ((0, 0, 0) : Tri) (T := Com.stepT fun s p => .inl (wrap64 (s + bitOn l p i))) (stepT_mono _) (C := fun s r => r = s) ?_ ?_ 0 _ ((foldT_foldl _ _ _ 0 _).2 rfl)
      · intro s x hx0 hxn r' hT
        have hT := stepT_inl hT rfl
        have hr6 := rd6_ent l hx0 hxn
        generalize (ptsE l).getD x.toNat (0, 0, 0) = e at hT hr6
        refine Ev.step (f := fun q => spec_PointsOn.l0 q l i (wrap64 (s + bitOn l e i)) ((ptsE l).map (entE l)) (x + 1)) (fun q => ?_) hT
        have r0 : rd (entE l e) 0 = e.1 := rfl
        have r1 : rd (entE l e) 1 = e.2.1 := rfl
        have r2 : rd (entE l e) 2 = e.2.2 := rfl
        have l0 : (0 : Int) < ((entE l e).length : Int) := by simp [entE]
        have l1 : (1 : Int) < ((entE l e).length : Int) := by simp [entE]
        have l2 : (2 : Int) < ((entE l e).length : Int) := by simp [entE]
        simp only [spec_PointsOn.l0]
        rw [if_pos (by rw [List.length_map]; exact hxn), hr6, if_pos hi.1, if_pos hi.2, if_pos hx0, if_pos l0, if_pos l1, if_pos l2, r0, r1, r2, bit_is, w64 (x := x + 1) (by omega) (by omega)]
        rfl
      · intro s r hC
        rw [show r = s from hC]
        exact Ev.step (f := fun _ => some s) (fun q => by simp only [spec_PointsOn.l0]; rw [if_neg (by rw [List.length_map]; omega)]) (Ev.now _)
    · rw [if_neg hi]
      exact Ev.step (f := fun _ => some (-1 : Int)) (fun q => by simp only [spec_PointsOn.j0]; rw [if_pos (by simp; omega)]) (Ev.now _)
theorem impl_PointsOn_ev (l : List LN) (i : Int) : Ev (fun k => impl_PointsOn.f k l i) (pointsOn l i) := by
  simp only [impl_PointsOn.f]
  simp only [impl_AreLines_eq, Option.bind_some]
  unfold pointsOn
  cases hL : linesB l with
  | false =>
    simp only [Bool.false_eq_true, if_false, false_and]
    exact Ev.now _
  | true =>
    have hn := lines_len hL
    simp only [if_true, true_and]
    have he : impl_isElement.f (l.length : Int) i = some (decide (0 ≤ i ∧ i < l.length)) := by
      unfold impl_isElement.f
      by_cases h0 : i ≥ 0
      · rw [if_pos h0]; congr 1; simp only [decide_eq_decide]; omega
      · rw [if_neg h0]; congr 1; symm; simp only [decide_eq_false_iff_not]; omega
    rw [he]
    simp only [Option.bind_some]
    by_cases hi : 0 ≤ i ∧ i < l.length
    · rw [if_pos hi]
      refine Ev.iteT (by simpa using hi) (Ev.iteT ⟨hi.1, by omega⟩ (Ev.bind (meetings_ev l hL) ?_))
      have : wrap64 (sumM (bitM i) (mapM_ l)) = ptsOn l i := by
        unfold ptsOn sumM
        rw [wsum (fun p => bitOn l p i) (ptsE l) 0 (w64 (by omega) (by omega)), Int.zero_add]
        congr 1
        have e1 : (mapM_ l).map (bitM i) = ((mapM_ l).map Prod.fst).map fun p => bitOn l p i := by
          rw [List.map_map]
          exact List.map_congr_left fun e he => ent_bit hL he hi.1 hi.2
        rw [e1]
        exact sum_perm ((keys_perm l hn.2).map _)
      rw [this]
      exact Ev.now _
    · rw [if_neg hi]
      exact Ev.iteF (by simpa using hi) (Ev.now _)
/-! #### MeetingRow -/
theorem sort_perm {a b : List Int} (h : a.Perm b) : (a.mergeSort fun x y => decide (x ≤ y)) = b.mergeSort fun x y => decide (x ≤ y) := by
  have srt : ∀ c : List Int, (c.mergeSort fun x y => decide (x ≤ y)).Pairwise (fun x y => decide (x ≤ y) = true) := fun c => List.pairwise_mergeSort (le := fun x y => decide (x ≤ y)) (fun a b c h h' => by simp at *; omega) (fun a b => by simp; omega) c
  refine List.Perm.eq_of_pairwise (le := fun x y => decide (x ≤ y)) ?_ (srt a) (srt b) ((List.mergeSort_perm a _).trans (h.trans (List.mergeSort_perm b _).symm))
  intro x y _ _ h3 h4
  simp at h3 h4
  omega
noncomputable def rowM (l : List LN) : List Int := ((ptsE l).map (cntW l)).mergeSort fun x y => decide (x ≤ y)
theorem rowM_length (l : List LN) (h6 : l.length ≤ 6) : (rowM l).length ≤ 15 := by
  unfold rowM
  rw [List.length_mergeSort, List.length_map]
  exact ptsE_few l h6
theorem impl_MeetingRow_ev (l : List LN) (hL : linesB l = true) : Ev (fun k => impl_MeetingRow.f k l) (rowM l) := by
  have hn := lines_len hL
  simp only [impl_MeetingRow.f]
  simp only [impl_AreLines_eq, Option.bind_some, hL, if_true]
  refine Ev.iteT (by omega) (Ev.bind (meetings_ev l hL) ?_)
  have hm := mapM_len l hn.2
  refine ⟨100, fun k hk => ?_⟩
  have hall : (mapM_ l).all (fun p => (impl_elementsOf.f k p.2).isSome) = true := by
    rw [List.all_eq_true]
    intro e he
    rw [(ent_cnt hL he hk).1]; rfl
  have e1 : (mapM_ l).map (lenM k) = ((mapM_ l).map Prod.fst).map (cntW l) := by
    rw [List.map_map]
    exact List.map_congr_left fun e he => (ent_cnt hL he hk).2
  simp only []
  rw [if_pos ⟨by omega, hall⟩, e1]
  unfold slices_Sort_int_int.f
  rw [if_pos (by simp only [List.length_map]; omega), sort_perm ((keys_perm l hn.2).map (cntW l))]
  rfl
theorem spec_MeetingRow_ev (l : List LN) (hL : linesB l = true) : Ev (fun k => spec_MeetingRow.f k l) (rowM l) := by
  have hn := lines_len hL
  have hfew := ptsE_few l hn.2
  simp only [spec_MeetingRow.f, Option.bind_some]
  refine Ev.bind (spec_AreLines_ev l (by omega)) ?_
  rw [hL]
  refine Ev.iteT rfl (Ev.bind (points_ev l hL) ?_)
  unfold rowM
  rw [← puts_eq]
  refine listLoop0 (σ := List Int) (ρ := List Int) (l := fun q s x => spec_MeetingRow.l0 q s ((ptsE l).map (entE l)) x) (ptsE l) ((0, 0, 0) : Tri) (T := putT (cntW l)) (putT_mono _) (C := fun s r => r = s) ?_ ?_ [] _ (putT_fold _ _ _ [] _ (by simp only [List.length_nil]; omega) rfl)
  · rintro s x hx0 hxn r' ⟨hs, hT⟩
    have hr6 := rd6_ent l hx0 hxn
    generalize (ptsE l).getD x.toNat (0, 0, 0) = e at hT hr6
    refine Ev.step (f := fun q => (spec_l16Put.f q s (cntW l e)).bind fun t => spec_MeetingRow.l0 q t ((ptsE l).map (entE l)) (x + 1)) (fun q => ?_) (Ev.bind (l16Put_ev s (cntW l e) (by omega)) hT)
    have r3 : rd (entE l e) 3 = cntW l e := rfl
    have l3 : (3 : Int) < ((entE l e).length : Int) := by simp [entE]
    simp only [spec_MeetingRow.l0]
    rw [if_pos (by rw [List.length_map]; exact hxn), hr6, if_pos hx0, if_pos l3, r3, w64 (x := x + 1) (by omega) (by omega)]
  · intro s r hC
    rw [show r = s from hC]
    exact Ev.step (f := fun _ => some s) (fun q => by simp only [spec_MeetingRow.l0]; rw [if_neg (by rw [List.length_map]; omega)]) (Ev.now _)
/-! #### what the row's numbers come to, less one each -/
def stepR (s x : Int) : Int := wrap64 (wrap64 (s + x) - 1)
noncomputable def restM (l : List LN) : Int := (rowM l).foldl stepR 0
theorem spec_l24Rest_ev (l : List LN) (hL : linesB l = true) : Ev (fun k => spec_l24Rest.f k l) (restM l) := by
  have hn := lines_len hL
  have hr := rowM_length l hn.2
  simp only [spec_l24Rest.f]
  refine Ev.bind (spec_MeetingRow_ev l hL) ?_
  unfold restM
  generalize rowM l = R at hr
  refine listLoop0 (σ := Int) (ρ := Int) (l := fun q s x => spec_l24Rest.l0 q s R x) R (0 : Int) (T := Com.stepT fun s x => .inl (stepR s x)) (stepT_mono _) (C := fun s r => r = s) ?_ ?_ 0 _ ((foldT_foldl _ _ _ 0 _).2 rfl)
  · intro s x hx0 hxn r' hT
    have hT := stepT_inl hT rfl
    refine Ev.step (f := fun q => spec_l24Rest.l0 q (stepR s (rd R x)) R (x + 1)) (fun q => ?_) hT
    simp only [spec_l24Rest.l0]
    rw [if_pos hxn, if_pos hx0, w64 (x := x + 1) (by omega) (by omega)]
    rfl
  · intro s r hC
    rw [show r = s from hC]
    exact Ev.step (f := fun _ => some s) (fun q => by simp only [spec_l24Rest.l0]; rw [if_neg (by omega)]) (Ev.now _)
theorem impl_excess_ev (l : List LN) (hL : linesB l = true) : Ev (fun k => impl_excess.f k l) (restM l) := by
  have hn := lines_len hL
  have hr := rowM_length l hn.2
  simp only [impl_excess.f]
  refine Ev.bind (impl_MeetingRow_ev l hL) ?_
  unfold restM
  generalize rowM l = R at hr
  refine listLoop0 (σ := Int) (ρ := Int) (l := fun q s x => impl_excess.l0 q s R (R.length : Int) x) R (0 : Int) (T := Com.stepT fun s x => .inl (stepR s x)) (stepT_mono _) (C := fun s r => r = s) ?_ ?_ 0 _ ((foldT_foldl _ _ _ 0 _).2 rfl)
  · intro s x hx0 hxn r' hT
    have hT := stepT_inl hT rfl
    refine Ev.step (f := fun q => impl_excess.l0 q (stepR s (rd R x)) R (R.length : Int) (x + 1)) (fun q => ?_) hT
    simp only [impl_excess.l0]
    rw [if_pos hxn, if_pos hx0, if_pos hxn, w64 (x := x + 1) (by omega) (by omega)]
    rfl
  · intro s r hC
    rw [show r = s from hC]
    exact Ev.step (f := fun _ => some s) (fun q => by simp only [impl_excess.l0]; rw [if_neg (by omega)]) (Ev.now _)
noncomputable def linePoly (l : List LN) : List Int := if linesB l = true then [restM l, wrap64 (-(l.length : Int)), 1] else []
theorem spec_LinePoly_ev (l : List LN) (hl : l.length ≤ 1099511627776) : Ev (fun k => spec_LinePoly.f k l) (linePoly l) := by
  simp only [spec_LinePoly.f]
  refine Ev.bind (spec_AreLines_ev l hl) ?_
  unfold linePoly
  cases hL : linesB l with
  | false => exact Ev.iteF (by decide) (Ev.now _)
  | true => exact Ev.iteT rfl (Ev.bind (spec_l24Rest_ev l hL) (Ev.now _))
theorem impl_LinePoly_ev (l : List LN) : Ev (fun k => impl_LinePoly.f k l) (linePoly l) := by
  simp only [impl_LinePoly.f]
  simp only [impl_AreLines_eq, Option.bind_some]
  unfold linePoly
  cases hL : linesB l with
  | false => exact Ev.iteF (by decide) (Ev.now _)
  | true => exact Ev.iteT rfl (Ev.bind (impl_excess_ev l hL) (Ev.now _))
noncomputable def polyAt (l : List LN) (p : Int) : Int := if linesB l = true ∧ inB p 1000 = true then wrap64 (wrap64 (restM l + wrap64 (wrap64 (-(l.length : Int)) * p)) + wrap64 (p * p)) else 0
theorem spec_PolyAtPrime_ev (l : List LN) (p : Int) (hl : l.length ≤ 1099511627776) : Ev (fun k => spec_PolyAtPrime.f k l p) (polyAt l p) := by
  simp only [spec_PolyAtPrime.f]
  refine Ev.bind (spec_LinePoly_ev l hl) ?_
  unfold polyAt linePoly
  cases hL : linesB l with
  | false => exact Ev.iteT (by simp) (by simpa using Ev.now (0 : Int))
  | true =>
    simp only [if_true, true_and]
    refine Ev.iteF (by simp) ?_
    have e : spec_l1In.f p (-1000) 1000 = some (inB p 1000) := l1In_eq p (-1000) 1000
    rw [e]
    simp only [Option.bind_some]
    by_cases hp : inB p 1000 = true
    · refine Ev.iteT hp (Ev.iteT (by simp) (Ev.iteT (by simp) ?_))
      rw [if_pos hp]
      exact Ev.now _
    · refine Ev.iteF hp ?_
      rw [if_neg hp]
      exact Ev.now _
theorem impl_PolyAtPrime_ev (l : List LN) (p : Int) : Ev (fun k => impl_PolyAtPrime.f k l p) (polyAt l p) := by
  simp only [impl_PolyAtPrime.f]
  simp only [impl_AreLines_eq, Option.bind_some]
  unfold polyAt
  cases hL : linesB l with
  | false =>
    refine Ev.iteF (by decide) ?_
    simpa using Ev.now (0 : Int)
  | true =>
    refine Ev.iteT rfl ?_
    have e : impl_isFar.f p 1000 = some (!inB p 1000) := by
      unfold impl_isFar.f inB
      rw [w64 (by omega) (by omega)]
      by_cases h : p < -1000
      · rw [if_pos h]; congr 1; symm; simp; omega
      · rw [if_neg h]; congr 1; rw [Bool.eq_iff_iff]; simp; omega
    rw [e]
    simp only [Option.bind_some, true_and]
    by_cases hp : inB p 1000 = true
    · rw [if_pos hp]
      refine Ev.iteF (by simp [hp]) (Ev.bind (impl_excess_ev l hL) ?_)
      have : wrap64 (restM l - wrap64 ((l.length : Int) * p)) = wrap64 (restM l + wrap64 (wrap64 (-(l.length : Int)) * p)) := by
        rw [ww_sub_r, ww_mul_l, ww_add_r, Int.neg_mul]
        rfl
      rw [this]
      exact Ev.now _
    · rw [if_neg hp]
      exact Ev.iteT (by simpa using hp) (Ev.now _)
end Go.Proofs.Ytldcckcljjlglaa.Pure

namespace Go.Proofs.Ytldcckcljjlglaa.Pure
open Go.RowKit Go.Proofs.Ytldcckcljjlglaa.P Go.Proofs.YtldcckcljjlglaaW.PrintWords Go.Proofs.YtldcckcljjlglaaW.PrintLast
set_option linter.unusedSimpArgs false
set_option linter.unusedVariables false
open Go.Proofs.Ytldcckcljjlglaa.Com
theorem eqIntS_l0 (a : List Int) (hm : a.length ≤ 1099511627776) (d : Nat) : ∀ (k : Nat) (i : Int), 0 ≤ i → i + d = a.length → d < k → laws_eqIntS.l0 k a a i = some true := by
  induction d with
  | zero =>
    intro k i h0 hi hk
    obtain ⟨k, rfl, _⟩ := succ_of_lt hk
    simp only [laws_eqIntS.l0]
    rw [if_neg (by omega)]
  | succ d ih =>
    intro k i h0 hi hk
    obtain ⟨k, rfl, hk⟩ := succ_of_lt hk
    simp only [laws_eqIntS.l0, if_true]
    rw [if_pos (by omega), if_pos h0, if_pos (by omega), w64 (by omega) (by omega), ih k (i + 1) (by omega) (by omega) (by omega)]
theorem eqIntS_refl (a : List Int) (hm : a.length ≤ 1099511627776) : Ev (fun k => laws_eqIntS.f k a a) true := by
  refine ⟨a.length + 1, fun k hk => ?_⟩
  dsimp only
  unfold laws_eqIntS.f
  rw [if_pos rfl, eqIntS_l0 a hm a.length k 0 (by omega) (by omega) (by omega)]
end Go.Proofs.Ytldcckcljjlglaa.Pure

namespace Go.Proofs.Ytldcckcljjlglaa.Pure
open Go.RowKit Go.Proofs.Ytldcckcljjlglaa.P Go.Proofs.YtldcckcljjlglaaW.PrintWords Go.Proofs.YtldcckcljjlglaaW.PrintLast
set_option linter.unusedSimpArgs false
set_option linter.unusedVariables false
open Go.Proofs.Ytldcckcljjlglaa.Com
def marksInt (x : Int) : Nat → List Int
  | 0 => []
  | d + 1 => x :: marksInt (x + 1) d
theorem marksInt_length (x : Int) (d : Nat) : (marksInt x d).length = d := by
  induction d generalizing x with
  | zero => rfl
  | succ d ih => simp [marksInt, ih]
theorem markInt_l0 (d : Nat) : ∀ (k : Nat) (i x : Int) (l : List Int), l.length ≤ 1099511627776 → 0 ≤ i → i + d = l.length → 0 ≤ x → x + d ≤ 4611686018427387904 → d < k →
    laws_markIntS.l0 k l x i = some (x + d, l.take i.toNat ++ marksInt x d) := by
  induction d with
  | zero =>
    intro k i x l hm h0 hi hx hb hk
    obtain ⟨k, rfl, _⟩ := succ_of_lt hk
    simp only [laws_markIntS.l0]
    rw [if_neg (by omega), List.take_of_length_le (by omega)]; simp [marksInt]
  | succ d ih =>
    intro k i x l hm h0 hi hx hb hk
    obtain ⟨k, rfl, hk⟩ := succ_of_lt hk
    have hlt : i.toNat < l.length := by omega
    simp only [laws_markIntS.l0]
    rw [if_pos (by omega), if_pos h0]
    rw [w64 (by omega) (by omega), w64 (by omega) (by omega), ih k (i + 1) _ _ (by simpa using hm) (by omega) (by simpa using (by omega : i + 1 + (d : Int) = l.length)) (by omega) (by omega) (by omega)]
    rw [show (i + 1).toNat = i.toNat + 1 from by omega, set_take_succ _ _ _ hlt]
    simp only [marksInt, List.append_assoc, List.singleton_append]
    congr 2
    omega
theorem heldInt_l0 (d : Nat) : ∀ (k : Nat) (i x : Int) (l : List Int), l.length ≤ 1099511627776 → 0 ≤ i → i + d = l.length → 0 ≤ x → x + d ≤ 4611686018427387904 → l.drop i.toNat = marksInt x d → d < k →
    laws_heldIntS.l0 k l x i = some (x + d) := by
  induction d with
  | zero =>
    intro k i x l hm h0 hi hx hb hl hk
    obtain ⟨k, rfl, _⟩ := succ_of_lt hk
    simp only [laws_heldIntS.l0]
    rw [if_neg (by omega)]; simp
  | succ d ih =>
    intro k i x l hm h0 hi hx hb hl hk
    obtain ⟨k, rfl, hk⟩ := succ_of_lt hk
    have hlt : i.toNat < l.length := by omega
    rw [drop_cons l i.toNat 0 hlt] at hl
    simp only [marksInt, List.cons.injEq] at hl
    have hr : rd l i = x := hl.1
    simp only [laws_heldIntS.l0]
    rw [if_pos (by omega), if_pos h0, if_pos hr, w64 (by omega) (by omega), w64 (by omega) (by omega), ih k (i + 1) _ l hm (by omega) (by omega) (by omega) (by omega) (by rw [show (i + 1).toNat = i.toNat + 1 from by omega]; exact hl.2) (by omega)]
    congr 1
    omega
theorem markInt_eq (l : List Int) (hm : l.length ≤ 1099511627776) : Ev (fun k => laws_markIntS.f k l 1) (1 + (l.length : Int), marksInt 1 l.length) := by
  refine ⟨l.length + 1, fun k hk => ?_⟩
  dsimp only
  unfold laws_markIntS.f
  rw [markInt_l0 l.length k 0 1 l hm (by omega) (by omega) (by omega) (by omega) (by omega)]; simp
theorem heldInt_eq (n : Nat) (hm : n ≤ 1099511627776) : Ev (fun k => laws_heldIntS.f k (marksInt 1 n) 1) (1 + (n : Int)) := by
  refine ⟨n + 1, fun k hk => ?_⟩
  dsimp only
  unfold laws_heldIntS.f
  rw [heldInt_l0 n k 0 1 _ (by rw [marksInt_length]; exact hm) (by omega) (by rw [marksInt_length]; omega) (by omega) (by omega) (by simp) (by omega)]
end Go.Proofs.Ytldcckcljjlglaa.Pure

namespace Go.Proofs.Ytldcckcljjlglaa.Pure
open Go.RowKit Go.Proofs.Ytldcckcljjlglaa.P Go.Proofs.YtldcckcljjlglaaW.PrintWords Go.Proofs.YtldcckcljjlglaaW.PrintLast
set_option linter.unusedSimpArgs false
set_option linter.unusedVariables false
open Go.Proofs.Ytldcckcljjlglaa.Com
def marksLine (x : Int) : Nat → List S40
  | 0 => []
  | d + 1 => ⟨x, x + 1, x + 2⟩ :: marksLine (x + 3) d
theorem marksLine_length (x : Int) (d : Nat) : (marksLine x d).length = d := by
  induction d generalizing x with
  | zero => rfl
  | succ d ih => simp [marksLine, ih]
theorem markLine_l0 (d : Nat) : ∀ (k : Nat) (i x : Int) (l : List S40), l.length ≤ 1099511627776 → 0 ≤ i → i + d = l.length → 0 ≤ x → x + 3 * d ≤ 4611686018427387904 → d < k →
    laws_markLineS.l0 k l x i = some (x + 3 * d, l.take i.toNat ++ marksLine x d) := by
  induction d with
  | zero =>
    intro k i x l hm h0 hi hx hb hk
    obtain ⟨k, rfl, _⟩ := succ_of_lt hk
    simp only [laws_markLineS.l0]
    rw [if_neg (by omega), List.take_of_length_le (by omega)]; simp [marksLine]
  | succ d ih =>
    intro k i x l hm h0 hi hx hb hk
    obtain ⟨k, rfl, hk⟩ := succ_of_lt hk
    have hlt : i.toNat < l.length := by omega
    simp only [laws_markLineS.l0]
    rw [if_pos (by omega), if_pos h0]
    have w1 : wrap64 (x + 1) = x + 1 := w64 (by omega) (by omega)
    have w2 : wrap64 (x + 1 + 1) = x + 2 := by rw [w64 (by omega) (by omega)]; omega
    have w3 : wrap64 (x + 2 + 1) = x + 3 := by rw [w64 (by omega) (by omega)]; omega
    have wi : wrap64 (i + 1) = i + 1 := w64 (by omega) (by omega)
    simp only [Option.bind_some, w1, w2, w3, wi, rd_T40, List.set_set, getD_set _ _ _ _ (show i.toNat < (l.set i.toNat _).length from by simpa using hlt), getD_set _ _ _ _ hlt]
    rw [ih k (i + 1) _ _ (by simpa using hm) (by omega) (by simpa using (by omega : i + 1 + (d : Int) = l.length)) (by omega) (by omega) (by omega)]
    rw [show (i + 1).toNat = i.toNat + 1 from by omega, set_take_succ _ _ _ hlt]
    simp only [marksLine, List.append_assoc, List.singleton_append]
    congr 2
    omega
theorem markLine_eq (l : List S40) (hm : l.length ≤ 1099511627776) : Ev (fun k => laws_markLineS.f k l 1) (1 + 3 * (l.length : Int), marksLine 1 l.length) := by
  refine ⟨l.length + 1, fun k hk => ?_⟩
  dsimp only
  unfold laws_markLineS.f
  rw [markLine_l0 l.length k 0 1 l hm (by omega) (by omega) (by omega) (by omega) (by omega)]; simp
end Go.Proofs.Ytldcckcljjlglaa.Pure

namespace Go.Proofs.Ytldcckcljjlglaa.Pure
open Go.RowKit Go.Proofs.Ytldcckcljjlglaa.P Go.Proofs.YtldcckcljjlglaaW.PrintWords Go.Proofs.YtldcckcljjlglaaW.PrintLast Go.Proofs.Ytldcckcljjlglaa.Com
set_option linter.unusedSimpArgs false
set_option linter.unusedVariables false

theorem linePoly_length (l : List LN) : (linePoly l).length ≤ 3 := by
  unfold linePoly
  split <;> simp
theorem FnExactLinePoly : laws_FnExactLinePoly.Pure := by
  rintro x ⟨hm, _⟩
  apply Ev.rounds
  simp only [laws_FnExactLinePoly.f, szLineS_eq x hm, Option.bind_some]
  by_cases h : x.length ≤ 1048576
  · rw [if_pos h]
    refine Ev.iteF (by omega) ?_
    have hl : (x.map convLine).length ≤ 1048576 := by simpa using h
    obtain ⟨r, h1, h2, hr⟩ : ∃ r, Ev (fun k => spec_LinePoly.f k (x.map convLine)) r ∧ Ev (fun k => impl_LinePoly.f k (x.map convLine)) r ∧ r.length ≤ 3 := ⟨_, spec_LinePoly_ev _ (by omega), impl_LinePoly_ev _, linePoly_length _⟩
    refine Ev.bind (toLineS_eq x h) (Ev.bind h1 (Ev.bind (toLineS_eq x h) (Ev.bind h2 (Ev.bind (eqIntS_refl r (by omega)) (Ev.iteT rfl (Ev.bind (toLineS_eq x h) (Ev.bind (eqLineS_refl _ (by omega)) (Ev.iteT rfl (Ev.bind (markLine_eq _ (by omega)) (Ev.iteF (by simp only []; omega) (Ev.bind (eqIntS_refl r (by omega)) ?_)))))))))))
    refine Ev.step (fun q => by simp only [laws_FnExactLinePoly.j0, Bool.not_true, Bool.false_eq_true, if_false]; rfl) ?_
    refine Ev.bind (markInt_eq r (by omega)) (Ev.bind (heldInt_eq r.length (by omega)) (Ev.iteF (by omega) (Ev.iteT rfl (Ev.bind (toLineS_eq x h) (Ev.bind h2 (Ev.bind (eqIntS_refl r (by omega)) (Ev.iteT rfl (Ev.bind (heldInt_eq r.length (by omega)) (Ev.iteF (by omega) (Ev.iteT rfl (Ev.now true)))))))))))
  · rw [if_neg h]
    exact Ev.iteT (by omega) (Ev.now true)
end Go.Proofs.Ytldcckcljjlglaa.Pure

namespace Go.Proofs.Ytldcckcljjlglaa.Opn
open Go Go.Deep Go.ChangeShapes Go.WideShapes Go.Proofs.YtldcckcljjlglaaW.PrintWords

section
variable {H : Type} (enc : TypeId × Value → H) (P : Program) (w : World) (base : Nat) (spare : Nat → Bool) (held : Bool)
/-- Whatever is read at type t is told by the kind d, and Q holds of it. -/
def Opens {α : Type} (d : Kd α) (t : TypeId) (Q : α → Prop) : Prop :=
  ∀ (fuel : Nat) (cs : List Value) (x : DataW H × List MemPlace), DataW.trod enc P w base spare held fuel t cs = some x → ∃ a, d.K w a cs ∧ Q a
end
section
variable {H : Type} {enc : TypeId × Value → H} {P : Program} {w : World} {base : Nat} {spare : Nat → Bool} {held : Bool}
theorem opens_int {t : TypeId} {k : IntKind} (ht : P.underlying t = some (.int k)) : Opens enc P w base spare held (Kd.int k) t (fun n => (Lit.int k n).wf = true) := fun fuel cs x h => by
  obtain ⟨n, rfl, _, hw⟩ := DataW.trod_int ht h
  exact ⟨n, rfl, hw⟩
theorem opens_bool {t : TypeId} (ht : P.underlying t = some .bool) : Opens enc P w base spare held Kd.bool t (fun _ => True) := fun fuel cs x h => by
  obtain ⟨n, rfl, _⟩ := DataW.trod_bool ht h
  exact ⟨n, rfl, trivial⟩
theorem opens_string {t : TypeId} (ht : P.underlying t = some .string) : Opens enc P w base spare held Kd.string t (fun s => s.size ≤ maxLen) := fun fuel cs x h => by
  obtain ⟨n, rfl, _, hs⟩ := DataW.trod_string ht h
  exact ⟨n, rfl, hs⟩
theorem opens_iso {α β : Type} {d : Kd α} {t : TypeId} {Q : α → Prop} (h : Opens enc P w base spare held d t Q) (f : β → α) (g : α → β) (hfg : ∀ a, f (g a) = a) : Opens enc P w base spare held (Kd.iso d f) t (fun b => Q (f b)) := fun fuel cs x hx => by
  obtain ⟨a, hK, hQ⟩ := h fuel cs x hx
  exact ⟨g a, by show d.K w (f (g a)) cs; rw [hfg]; exact hK, by show Q (f (g a)); rw [hfg]; exact hQ⟩
/-- A list of fields, one behind the other, from the cell o on. -/
def OpensFs (enc : TypeId × Value → H) (P : Program) (w : World) (base : Nat) (spare : Nat → Bool) (held : Bool) {α : Type} (d : Kd α) (o : Nat) (fs : List Field) (Q : α → Prop) : Prop :=
  ∀ (n : Nat) (cs : List Value), cs.length = o + d.sz → (∀ f ∈ fs, ∃ x, DataW.trod enc P w base spare held n f.type ((cs.drop f.offset).take (P.cellsOf f.type)) = some x) → ∃ a, d.K w a (cs.drop o) ∧ Q a
theorem opensFs_one {α : Type} {d : Kd α} {o : Nat} {f : Field} {Q : α → Prop} (h : Opens enc P w base spare held d f.type Q) (ho : f.offset = o) (hc : P.cellsOf f.type = d.sz) : OpensFs enc P w base spare held d o [f] Q := by
  intro n cs hl hf
  obtain ⟨x, hx⟩ := hf f (by simp)
  obtain ⟨a, hK, hQ⟩ := h n _ x hx
  refine ⟨a, ?_, hQ⟩
  rwa [ho, hc, List.take_of_length_le (by rw [List.length_drop]; omega)] at hK
theorem opensFs_cons {α β : Type} {d : Kd α} {e : Kd β} {o : Nat} {f : Field} {fs : List Field} {Q : α → Prop} {R : β → Prop} (h : Opens enc P w base spare held d f.type Q) (hs : OpensFs enc P w base spare held e (o + d.sz) fs R) (ho : f.offset = o) (hc : P.cellsOf f.type = d.sz) :
    OpensFs enc P w base spare held (Kd.pair d e) o (f :: fs) (fun x => Q x.1 ∧ R x.2) := by
  intro n cs hl hf
  have hz : (Kd.pair d e).sz = d.sz + e.sz := rfl
  rw [hz] at hl
  obtain ⟨x, hx⟩ := hf f (by simp)
  obtain ⟨a, hK, hQ⟩ := h n _ x hx
  obtain ⟨b, hK', hR⟩ := hs n cs (by omega) (fun g hg => hf g (by simp [hg]))
  rw [ho, hc] at hK
  refine ⟨(a, b), ⟨(cs.drop o).take d.sz, cs.drop (o + d.sz), ?_, hK, hK'⟩, hQ, hR⟩
  rw [← List.drop_drop, List.take_append_drop]
theorem opens_struct {α : Type} {d : Kd α} {t : TypeId} {fs : Array Field} {Q : α → Prop} (ht : P.underlying t = some (.struct fs)) (hc : P.cellsOf t = d.sz) (h : OpensFs enc P w base spare held d 0 fs.toList Q) : Opens enc P w base spare held d t Q := fun fuel cs x hx => by
  obtain ⟨xs, n, rfl, rfl, hl, hlen, hf⟩ := DataW.trod_struct ht hx
  obtain ⟨a, hK, hQ⟩ := h n cs (by omega) (fun f hm => by
    obtain ⟨i, hi, rfl⟩ := List.mem_iff_getElem.1 hm
    have hi' : i < fs.size := by simpa using hi
    have := hf i fs[i] (by simp [hi'])
    rw [List.getElem?_eq_getElem (by omega)] at this
    exact ⟨_, by simpa using this⟩)
  exact ⟨a, by simpa using hK, hQ⟩
theorem opens_slice {α : Type} {d : Kd α} {t e : TypeId} {Q : α → Prop} (ht : P.underlying t = some (.slice e)) (hc : P.cellsOf e = d.sz) (h : Opens enc P w base spare held d e Q) :
    Opens enc P w base spare held (Kd.slice e d) t (fun xs => xs.length ≤ maxLen ∧ ∀ x ∈ xs, Q x) := fun fuel cs x hx => by
  rcases open_slice ht hx with ⟨rfl, _⟩ | ⟨a, len, cap, m, n, D, Pl, rfl, _, hl, hm, hmm, _, hel⟩
  · exact ⟨[], ⟨none, 0, rfl, Nat.le_refl _, ⟨rfl, by simp, fun h => by simp at h⟩⟩, by simp⟩
  have hlm : len ≤ m := by rw [hmm]; split <;> omega
  have hi : ∀ i : Fin len, ∃ y : α, (∃ cs', w.cells? base (a.add (i.val * P.cellsOf e)) (P.cellsOf e) = some cs' ∧ d.K w y cs') ∧ Q y := fun i => by
    obtain ⟨cs', h1, h2⟩ := hel i.val (by omega)
    obtain ⟨y, hK, hQ⟩ := h _ _ _ h2
    exact ⟨y, ⟨cs', h1, hK⟩, hQ⟩
  let f : Fin len → α := fun i => Classical.choose (hi i)
  have hfs : ∀ i : Fin len, (∃ cs', w.cells? base (a.add (i.val * P.cellsOf e)) (P.cellsOf e) = some cs' ∧ d.K w (f i) cs') ∧ Q (f i) := fun i => Classical.choose_spec (hi i)
  have hlen : (List.ofFn f).length = len := by simp
  have hmax : cap ≤ 9223372036854775807 := by unfold maxLen at hm; omega
  refine ⟨List.ofFn f, ⟨some a, cap, by rw [hlen], by omega, ⟨rfl, by omega, fun _ => ⟨a, rfl, fun j p hj => ?_⟩⟩⟩, by omega, fun y hy => ?_⟩
  · obtain ⟨hj', rfl⟩ := List.getElem?_eq_some_iff.1 hj
    obtain ⟨⟨cs', h1, hK⟩, _⟩ := hfs ⟨j, by omega⟩
    obtain ⟨_, hcl, hcell⟩ := World.cells?_some h1
    refine ⟨cs', by omega, by simpa using hK, fun i u hu => ?_⟩
    have hiu : i < P.cellsOf e := by
      have := (List.getElem?_eq_some_iff.1 hu).1
      omega
    have := hcell i hiu
    rw [Go.Deep.add_add, hu, hc] at this
    exact this
  · obtain ⟨i, rfl⟩ := (List.mem_ofFn).1 hy
    exact (hfs i).2
end
end Go.Proofs.Ytldcckcljjlglaa.Opn

namespace Go.Proofs.Ytldcckcljjlglaa.fnExactLinePoly
open Go.ChangeShapes Go.WideShapes Go.ChangeAt Go.RowKit Go.Proofs.Ytldcckcljjlglaa.P Go.Proofs.Ytldcckcljjlglaa.Opn Go.Proofs.YtldcckcljjlglaaW.PrintWords
open Go.ChangeMaps (open_string shut_string)
set_option linter.unusedVariables false
set_option linter.unusedSimpArgs false
theorem own : ownKnob Try.prog.godebug = none := by kernel_rfl
theorem laidOut : laidOutB Try.prog = true := by kernel_rfl
set_option maxRecDepth 100000 in
theorem lifted (os : Os) (started : os.Started) (H : Type) (enc : TypeId × Value → H) :
  ReturnsInHanded {} Try.checked os 8 .any (Rows.fnExactLinePolySpec.pre6 enc Try.prog Try.f8 Rows.fnExactLinePolyRow.domain false) (Rows.fnExactLinePolySpec.post enc Try.prog Try.f8 false true false false) := by
 refine returnsInHanded_of_change_sized (C := Try.checked) own started (by kernel_rfl) Try.func8
  (ChangeSpec.witness6 (enc := enc) (C := Try.checked) false ⟨#[], #[.slice none 0 0], []⟩ 8 (by kernel_rfl) (by kernel_rfl) (by kernel_rfl) (by kernel_rfl)) ?_
 intro W base args ds gs before hval0 hW hcnd hsz0 _
 have hval : ∀ (j : Nat) t v, Try.f8.params[j]? = some t → args[j]? = some v → Value.okWide Try.prog W .any base t v := hval0
 have hW' := hW
 obtain ⟨p, q, hA0, hV, rfl, hfz, hnd⟩ := hW
 have hA : DataW.TrodAll enc Try.prog W 0 (fun _ => true) true Try.f8.params.toList args.toList ds p := hA0
 rw [Try.params8] at hA hval
 obtain ⟨v0, vs0, d0, ds0, p0, q0, hargs, rfl, rfl, h0, r0⟩ := trodAll_cons hA
 obtain ⟨rfl, rfl, rfl⟩ := trodAll_nil r0
 obtain rfl : args = #[v0] := by cases args; simp_all
 obtain ⟨rfl, rfl⟩ := trodVars_none hV
 have k0 := h0
 have lt0 : ∀ x ∈ p0, x.block < W.heap.size := by obtain ⟨m, hm⟩ := k0; exact DataW.trod_lt m _ _ _ hm
 obtain ⟨a0, len0, cap0, rfl⟩ := okWide_slice Try.underlying22 (hval 0 22 v0 rfl rfl)
 obtain ⟨x0, ⟨A0, c0, e0, hc0, hC0⟩, y0⟩ : ∃ xs : List (S85), (Kd.slice 85 k85).K W xs [.slice a0 len0 cap0] ∧ (xs.length ≤ maxLen ∧ ∀ y0 ∈ xs, ((Lit.int .i64 y0.f0).wf = true ∧ (Lit.int .i64 y0.f1).wf = true ∧ (Lit.int .i64 y0.f2).wf = true)) := by obtain ⟨m, hm⟩ := h0; exact (opens_slice Try.underlying22 (by kernel_rfl) (opens_iso (opens_struct Try.underlying85 (by kernel_rfl) (opensFs_cons (opens_int Try.underlying3) (opensFs_cons (opens_int Try.underlying3) (opensFs_one (opens_int Try.underlying3) rfl (by kernel_rfl)) rfl (by kernel_rfl)) rfl (by kernel_rfl))) (fun x : S85 => (x.f0, x.f1, x.f2)) (fun a => (⟨a.1, a.2.1, a.2.2⟩ : S85)) (fun _ => rfl))) m _ _ hm
 simp only [List.cons.injEq, Value.slice.injEq, and_true] at e0
 obtain ⟨rfl, rfl, rfl⟩ := e0
 clear hA0 hval0 hsz0
 obtain ⟨k, hP⟩ := Pure.FnExactLinePoly x0 y0
 refine (laws_FnExactLinePoly.calls k _ _ x0 true W hC0 hc0 hP).mono ?_
 rintro e W' ⟨he, bel0⟩
 have bel : Below W.heap.size W W' := bel0
 subst he
 exact ⟨_, rfl, _, _, _, [], _, [], hW', trodAll_mk1 (shut_bool Try.underlying4 _), (trodAll_cons_mk (Below.trod laidOut (by kernel_rfl) (of_decide_eq_true (by kernel_rfl)) k0 bel lt0) trodAll_mk0), rfl, bel.frame _, fun h => by cases h⟩
theorem over : Rows.fnExactLinePolyRow.holds Try.pinned (OpenSpec.ofChange Rows.fnExactLinePolySpec) :=
 OpenClaim.holds_of_wide 8 Try.f8 rfl rfl rfl rfl rfl rfl rfl ⟨rfl, rfl, rfl, rfl, rfl⟩ rfl rfl rfl rfl rfl (by kernel_rfl) Try.func8 (by kernel_rfl)
  (of_decide_eq_true (by kernel_rfl)) (by unfold Func.isWrapper; first | (rw [if_pos (by decide +kernel)]; kernel_rfl) | (rw [if_neg (by decide +kernel)]; exact ⟨rfl, rfl⟩))
  (fun os started H enc _ => lifted os started H enc)
theorem proved : Rows.FnExactLinePolySaid := over
#print axioms proved
end Go.Proofs.Ytldcckcljjlglaa.fnExactLinePoly
namespace Go.Proofs.Ytldcckcljjlglaa
/-- The row, under a short name, for the claim. -/
theorem fnExactLinePoly_holds : Rows.FnExactLinePolySaid := fnExactLinePoly.proved
end Go.Proofs.Ytldcckcljjlglaa

