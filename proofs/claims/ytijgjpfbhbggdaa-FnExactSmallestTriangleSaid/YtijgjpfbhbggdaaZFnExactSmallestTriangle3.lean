/- For every list of points the program's SmallestTriangle returns what the reference's returns, a new list, and leaves the list of points as it was; no condition. -/
import Derived.Test.YtijgjpfbhbggdaaZFnExactSmallestTriangle2
import Derived.Test.YtijgjpfbhbggdaaRows
import Derived.Test.YtijgjpfbhbggdaaProg
import Derived.Below
import Derived.Deep.Draws
import Derived.Deep.AppendLies
import Derived.Maps.AppendAt
import Derived.OwnWalk
import Derived.Laws.BytesArg
import Derived.Laws.MakeOwn
import Derived.Laws.OwnMore
import Derived.Deep.OwnRows
import Derived.Tactics
import Derived.Lib.ConvBytes
import Derived.Laws.Slices
import Derived.WalkKit
import Derived.KernelRfl
import Derived.RowKit3
import Derived.Deep.LoopGhost
import Derived.Deep.QuietTactic
import Derived.BigQuiet
import Derived.WideLaws
import Derived.Deep.DeepCutAuto
import Derived.Deep.CutBlock
import Derived.Deep.RegionHeld3
import Derived.Laws.Rows
import Derived.Lib.AppendStr
import Derived.ArgAppend
import Derived.Laws.IdiomCopy
import Derived.OrdersHeld
import Derived.Laws.BitsLemmas
import Derived.RowKit
import Derived.Shelf.Abstract
import Derived.Test.YtijgjpfbhbggdaaWWords
import Derived.Test.YtijgjpfbhbggdaaWLast
import Derived.Test.YtijgjpfbhbggdaaWTab
import Derived.Test.YtijgjpfbhbggdaaWQPut
import Derived.Test.YtijgjpfbhbggdaaWApart
import Derived.Test.YtijgjpfbhbggdaaWArr
import Derived.Test.YtijgjpfbhbggdaaWZeros
import Derived.Test.YtijgjpfbhbggdaaWFoot
import Derived.Test.YtijgjpfbhbggdaaWKept
import Derived.Test.YtijgjpfbhbggdaaWShare
import Derived.Test.YtijgjpfbhbggdaaWN
import Derived.Test.YtijgjpfbhbggdaaWEqStruct
import Derived.Test.YtijgjpfbhbggdaaWRepsOne
import Derived.Test.YtijgjpfbhbggdaaWGuard
import Derived.Test.YtijgjpfbhbggdaaWNEv
import Derived.Test.YtijgjpfbhbggdaaWMore
import Derived.Shelf.Sort.Plain
import Derived.Shelf.Slices.In.SortNone
import Derived.Deep.Slices
import Derived.ChangeOld
import Derived.Carry
import Derived.ProofKit
import Derived.OpenShut
import Derived.ShutString
import Derived.SizedLaws
namespace Go.Proofs.Ytijgjpfbhbggdaa.Pure
open Go.RowKit Go.Proofs.Ytijgjpfbhbggdaa.P Go.Proofs.YtijgjpfbhbggdaaW.PrintWords Go.Proofs.YtijgjpfbhbggdaaW.PrintLast Go.Proofs.Ytijgjpfbhbggdaa.Com
open Go.Proofs.YtijgjpfbhbggdaaW.PrintMore
set_option linter.unusedSimpArgs false
set_option linter.unusedVariables false

theorem trips_few (n : Nat) (h : n ≤ 7) : (trips n).length ≤ 35 := by
  have z : n = 0 ∨ n = 1 ∨ n = 2 ∨ n = 3 ∨ n = 4 ∨ n = 5 ∨ n = 6 ∨ n = 7 := by omega
  rcases z with h | h | h | h | h | h | h | h <;> rw [h] <;> decide +kernel
/-- The greater of an area and its opposite. -/
def sizeAt (l : List S25) (t : Int × Int × Int) : Int := mx (areaL l t.1 t.2.1 t.2.2) (wrap64 (-(areaL l t.1 t.2.1 t.2.2)))
def sizesL (l : List S25) : List Int := (trips l.length).map (sizeAt l)
def rowL (l : List S25) : List Int := if pointsB l = true then (sizesL l).mergeSort (fun x y => decide (x ≤ y)) else []
theorem pts_len {l : List S25} (h : pointsB l = true) : 3 ≤ l.length ∧ l.length ≤ 7 := ((pointsB_iff l).1 h).1
theorem rowL_length (l : List S25) : (rowL l).length ≤ 35 := by
  unfold rowL
  split
  · rename_i h
    have := trips_few l.length (pts_len h).2
    rw [List.length_mergeSort, sizesL, List.length_map]; omega
  · simp
theorem l28Size_L (l : List S25) (i j k : Int) : spec_l28Size.f (rd_T25 l i).f0 (rd_T25 l i).f1 (rd_T25 l j).f0 (rd_T25 l j).f1 (rd_T25 l k).f0 (rd_T25 l k).f1 = some (sizeAt l (i, j, k)) := by
  have h : ∀ A : Int, (spec_l1Max.f A (wrap64 (-A))).bind (fun t => some t) = some (mx A (wrap64 (-A))) := by
    intro A
    simp only [spec_l1Max.f, mx]
    by_cases h1 : A > wrap64 (-A)
    · rw [if_pos h1, if_neg (by omega)]; rfl
    · rw [if_neg h1]
      by_cases h2 : A < wrap64 (-A)
      · rw [if_pos h2]; rfl
      · rw [if_neg h2, show wrap64 (-A) = A from by omega]; rfl
  simp only [spec_l28Size.f, l2Area_eq, Option.bind_some]
  exact h _
theorem spec_TriangleRow_ev (l : List S25) (hl : l.length ≤ 1099511627776) : Ev (fun k => spec_TriangleRow.f k l) (rowL l) := by
  simp only [spec_TriangleRow.f]
  cases hf : pointsB l with
  | false =>
    unfold rowL
    rw [hf, if_neg (by decide)]
    by_cases h0 : 0 < l.length
    · refine Ev.step (f := fun q => (spec_ArePoints.f q l).bind fun t => spec_TriangleRow.j1 q l [] 0 t) (fun q => by simp only [spec_TriangleRow.l0]; rw [if_pos (by omega)]) ?_
      refine Ev.bind (spec_ArePoints_ev l hl) ?_
      rw [hf]
      exact Ev.step (f := fun _ => some ([] : List Int)) (fun q => by simp only [spec_TriangleRow.j1]; rw [if_neg (by decide)]) (Ev.now _)
    · refine Ev.step (f := fun q => spec_TriangleRow.j1 q l [] 0 false) (fun q => by simp only [spec_TriangleRow.l0]; rw [if_neg (by omega)]) ?_
      exact Ev.step (f := fun _ => some ([] : List Int)) (fun q => by simp only [spec_TriangleRow.j1]; rw [if_neg (by decide)]) (Ev.now _)
  | true =>
    have h7 := pts_len hf
    have h35 := trips_few l.length h7.2
    refine tripLoopT (σ := List Int) (l0 := fun q s i => spec_TriangleRow.l0 q l s i) (l1 := fun q s i j => spec_TriangleRow.l1 q l s i j) (l2 := fun q s i j k => spec_TriangleRow.l2 q l s i j k) l.length (putT_mono (sizeAt l)) (C := fun s r => r = s) ?_ ?_ ?_ ?_ ?_ ?_ [] _ (putT_fold (sizeAt l) _ _ [] _ (by simp; omega) ?_)
    · intro s i j k h0 h1 h2 h3 r hT
      refine Ev.step (f := fun q => (spec_l16Put.f q s (sizeAt l (i, j, k))).bind fun t => spec_TriangleRow.l2 q l t i j (k + 1)) (fun q => ?_) (Ev.bind (l16Put_ev s _ (by have := hT.1; omega)) hT.2)
      simp only [spec_TriangleRow.l2, l28Size_L, Option.bind_some]
      rw [if_pos h3, if_pos h0, if_pos (by omega), if_pos (by omega), if_pos (by omega), if_pos (by omega), w64 (x := k + 1) (by omega) (by omega)]
    · intro s i j h0 h1 h2 r h
      refine Ev.step (f := fun q => spec_TriangleRow.l1 q l s i (j + 1)) (fun q => ?_) h
      simp only [spec_TriangleRow.l2]
      rw [if_neg (by omega), w64 (by omega) (by omega)]
    · intro s i j h0 h1 h2 r h
      refine Ev.step (f := fun q => spec_TriangleRow.l2 q l s i j (j + 1)) (fun q => ?_) h
      simp only [spec_TriangleRow.l1]
      rw [if_pos h2, w64 (by omega) (by omega)]
    · intro s i h0 h1 r h
      refine Ev.step (f := fun q => spec_TriangleRow.l0 q l s (i + 1)) (fun q => ?_) h
      simp only [spec_TriangleRow.l1]
      rw [if_neg (by omega), w64 (by omega) (by omega)]
    · intro s i h0 h1 r h
      refine Ev.step (f := fun q => (spec_ArePoints.f q l).bind fun t => spec_TriangleRow.j1 q l s i t) (fun q => by simp only [spec_TriangleRow.l0]; rw [if_pos h1]) ?_
      refine Ev.bind (spec_ArePoints_ev l hl) ?_
      rw [hf]
      refine Ev.step (f := fun q => spec_TriangleRow.l1 q l s i (i + 1)) (fun q => ?_) h
      simp only [spec_TriangleRow.j1]
      rw [if_pos trivial, w64 (by omega) (by omega)]
    · rintro s r rfl
      refine Ev.step (f := fun q => spec_TriangleRow.j1 q l r l.length false) (fun q => by simp only [spec_TriangleRow.l0]; rw [if_neg (by omega)]) ?_
      exact Ev.step (f := fun _ => some r) (fun q => by simp only [spec_TriangleRow.j1]; rw [if_neg (by decide)]) (Ev.now _)
    · unfold rowL
      rw [hf, if_pos rfl, puts_eq]
      rfl
theorem impl_triangles_ev (l : List S25) (h7 : l.length ≤ 7) : Ev (fun k => impl_triangles.f k l) (sizesL l) := by
  have h35 := trips_few l.length h7
  simp only [impl_triangles.f]
  refine Ev.bind (triples_eq l.length h7) ?_
  have hb : (((trips l.length).map mk3).length : Int) ≤ 35 := by rw [List.length_map]; omega
  refine listLoop0 (σ := List Int) (l := fun q s i => impl_triangles.l0 q l s _ _ i) ((trips l.length).map mk3) z65 (T := pushT fun t => some (sizeAt l (t.f0, t.f1, t.f2))) (pushT_mono _) (C := fun s r => r = s) ?_ ?_ [] _ ?_
  · intro s i hi0 hin r hT
    have hm := getD_mem ((trips l.length).map mk3) i.toNat z65 (by omega)
    generalize hg : ((trips l.length).map mk3).getD i.toNat z65 = t at hm hT
    have hr : rd_T65 ((trips l.length).map mk3) i = t := hg
    obtain ⟨⟨a, b, c⟩, hm3, rfl⟩ := List.mem_map.1 hm
    have hm := trips_mem.1 hm3
    obtain ⟨hb2, h⟩ := pushT_some hT (v := sizeAt l (a, b, c)) rfl
    refine Ev.step (f := fun q => if s.length < 17592186044416 then impl_triangles.l0 q l (s ++ [sizeAt l (a, b, c)]) ((trips l.length).map mk3) (((trips l.length).map mk3).length : Int) (i + 1) else none) (fun q => ?_) (Ev.iteT (by omega) h)
    simp only [impl_triangles.l0, hr, mk3, area_eq, Option.bind_some]
    have hlen : i < (((trips l.length).map mk3).length : Int) := hin
    rw [if_pos hlen, if_pos hi0, if_pos hlen, w64 (x := i + 1) (by omega) (by omega), if_pos (by omega), if_pos (by omega), if_pos (by omega), if_pos (by omega), if_pos (by omega), if_pos (by omega)]
    rfl
  · rintro s r rfl
    exact Ev.step (f := fun _ => some r) (fun q => by simp only [impl_triangles.l0]; rw [if_neg (by omega)]) (Ev.now _)
  · refine pushT_fold _ _ _ [] _ (by rw [List.length_map]; simp; omega) ?_
    unfold sizesL
    rw [List.nil_append, List.filterMap_map]
    simp [Function.comp_def, mk3]
theorem impl_TriangleRow_ev (l : List S25) (hl : l.length ≤ 1099511627776) : Ev (fun k => impl_TriangleRow.f k l) (rowL l) := by
  simp only [impl_TriangleRow.f]
  refine Ev.bind (impl_ArePoints_ev l hl) ?_
  cases hf : pointsB l with
  | false =>
    unfold rowL
    rw [hf, if_neg (by decide)]
    exact Ev.iteF (by decide) (Ev.now _)
  | true =>
    have h7 := pts_len hf
    have h35 := trips_few l.length h7.2
    refine Ev.iteT rfl (Ev.bind (impl_triangles_ev l h7.2) ?_)
    have hs : (sizesL l).length < 4611686018427387904 := by rw [sizesL, List.length_map]; omega
    simp only [slices_Sort_int_int.f]
    rw [if_pos hs]
    unfold rowL
    rw [hf, if_pos rfl]
    exact Ev.now _
end Go.Proofs.Ytijgjpfbhbggdaa.Pure

namespace Go.Proofs.Ytijgjpfbhbggdaa.Pure
open Go.RowKit Go.Proofs.Ytijgjpfbhbggdaa.P Go.Proofs.YtijgjpfbhbggdaaW.PrintWords Go.Proofs.YtijgjpfbhbggdaaW.PrintLast Go.Proofs.Ytijgjpfbhbggdaa.Com
open Go.Proofs.YtijgjpfbhbggdaaW.PrintMore
set_option linter.unusedSimpArgs false
set_option linter.unusedVariables false

theorem foldX_find {τ ρ : Type} (p : τ → Bool) (h : τ → ρ) (z : ρ) (L : List τ) : foldX (σ := Unit) (fun _ t => if p t = true then .inr (h t) else .inl ()) (fun _ => z) L () = ((L.find? p).map h).getD z := by
  induction L with
  | nil => rfl
  | cons t L ih =>
    simp only [foldX, List.find?_cons]
    cases hp : p t with
    | true => simp
    | false => simpa using ih
theorem foldl_mn (L : List Int) : ∀ x, (L.foldl mn x = x ∨ L.foldl mn x ∈ L) ∧ L.foldl mn x ≤ x ∧ ∀ y ∈ L, L.foldl mn x ≤ y := by
  induction L with
  | nil => intro x; exact ⟨.inl rfl, Int.le_refl _, fun y hy => by cases hy⟩
  | cons a L ih =>
    intro x
    obtain ⟨h1, h2, h3⟩ := ih (mn x a)
    have hm : (mn x a = x ∨ mn x a = a) ∧ mn x a ≤ x ∧ mn x a ≤ a := by
      unfold mn
      split <;> omega
    refine ⟨?_, by simp only [List.foldl_cons]; omega, fun y hy => ?_⟩
    · simp only [List.foldl_cons]
      rcases h1 with h1 | h1
      · rw [h1]
        rcases hm.1 with h | h
        · exact .inl h
        · rw [h]; exact .inr List.mem_cons_self
      · exact .inr (List.mem_cons_of_mem _ h1)
    · simp only [List.foldl_cons]
      rcases List.mem_cons.1 hy with rfl | hy
      · omega
      · exact h3 y hy
/-- The least number is the sorted row's first. -/
theorem min_head (L : List Int) (hL : L ≠ []) : slices_Min_int_int.f L = some (((L.mergeSort fun x y => decide (x ≤ y))).getD 0 0) := by
  cases L with
  | nil => exact absurd rfl hL
  | cons a t =>
    obtain ⟨h1, h2, h3⟩ := foldl_mn t a
    have hp := List.mergeSort_perm (a :: t) (fun x y => decide (x ≤ y))
    have hs := List.pairwise_mergeSort (le := fun x y => decide (x ≤ y)) (fun a b c h h' => by simp at *; omega) (fun a b => by simp; omega) (a :: t)
    generalize hq : (a :: t).mergeSort (fun x y => decide (x ≤ y)) = S at hp hs
    cases S with
    | nil => exact absurd hp.length_eq (by simp)
    | cons b S =>
      have hb : b ∈ a :: t := hp.subset List.mem_cons_self
      have hm : t.foldl mn a ∈ b :: S := hp.symm.subset (by
        rcases h1 with h | h
        · rw [h]; exact List.mem_cons_self
        · exact List.mem_cons_of_mem _ h)
      have hle1 : t.foldl mn a ≤ b := by
        rcases List.mem_cons.1 hb with rfl | hb
        · exact h2
        · exact h3 b hb
      have hle2 : b ≤ t.foldl mn a := by
        rcases List.mem_cons.1 hm with h | h
        · omega
        · have := (List.pairwise_cons.1 hs).1 _ h
          simpa using this
      show some (t.foldl mn a) = some b
      congr 1
      omega
theorem index_ev (L : List Int) (x : Int) (hl : L.length ≤ 1048576) (hx : x ∈ L) : ∃ i : Nat, i < L.length ∧ L.getD i 0 = x ∧ (∀ j, j < i → L.getD j 0 ≠ x) ∧ Ev (fun k => slices_Index_int_int.f k L x) (i : Int) := by
  have key : ∀ (d a : Nat), a + d = L.length → (∀ j, j < a → L.getD j 0 ≠ x) → ∃ i : Nat, i < L.length ∧ L.getD i 0 = x ∧ (∀ j, j < i → L.getD j 0 ≠ x) ∧ Ev (fun k => slices_Index_int_int.l0 k L x L.length (a : Int)) (i : Int) := by
    intro d
    induction d with
    | zero =>
      intro a ha hj
      obtain ⟨j, hjl, rfl⟩ := List.mem_iff_getElem.1 hx
      exact absurd (by simp [List.getD_eq_getElem?_getD, List.getElem?_eq_getElem hjl]) (hj j (by omega))
    | succ d ih =>
      intro a ha hj
      by_cases h : x = rd L (a : Int)
      · refine ⟨a, by omega, h.symm, hj, Ev.step (f := fun _ => some (a : Int)) (fun k => ?_) (Ev.now _)⟩
        simp only [slices_Index_int_int.l0]
        rw [if_pos (by omega), if_pos (by omega), if_pos (by omega), if_pos h]
      · obtain ⟨i, h1, h2, h3, h4⟩ := ih (a + 1) (by omega) (fun j hja => by
          by_cases e : j = a
          · subst e; exact fun e2 => h e2.symm
          · exact hj j (by omega))
        refine ⟨i, h1, h2, h3, Ev.step (fun k => ?_) h4⟩
        simp only [slices_Index_int_int.l0]
        rw [if_pos (by omega), if_pos (by omega), if_pos (by omega), if_neg h, w64 (by omega) (by omega)]
        rfl
  exact key L.length 0 (by omega) (fun j hj => absurd hj (Nat.not_lt_zero _))
def smallL (l : List S25) : List Int := if pointsB l = true then (((trips l.length).find? fun t => sizeAt l t == (rowL l).getD 0 0).map fun t => [t.1, t.2.1, t.2.2]).getD [] else []
theorem smallL_length (l : List S25) : (smallL l).length ≤ 3 := by
  unfold smallL
  split
  · cases (trips l.length).find? fun t => sizeAt l t == (rowL l).getD 0 0 <;> simp
  · simp
theorem trips_pos {n : Nat} (h : 3 ≤ n) : (0, 1, 2) ∈ trips n := trips_mem.2 (by omega)
theorem spec_Smallest_ev (l : List S25) (hl : l.length ≤ 1099511627776) : Ev (fun k => spec_SmallestTriangle.f k l) (smallL l) := by
  simp only [spec_SmallestTriangle.f]
  refine Ev.bind (spec_TriangleRow_ev l hl) ?_
  cases hf : pointsB l with
  | false =>
    have hr : rowL l = [] := by unfold rowL; rw [hf, if_neg (by decide)]
    unfold smallL
    rw [hf, if_neg (by decide), hr]
    by_cases h0 : 0 < l.length
    · refine Ev.step (f := fun q => spec_SmallestTriangle.j1 q l [] 0 false) (fun q => by simp only [spec_SmallestTriangle.l0]; rw [if_pos (by omega)]; rfl) ?_
      exact Ev.step (f := fun _ => some ([] : List Int)) (fun q => by simp only [spec_SmallestTriangle.j1]; rw [if_neg (by decide)]) (Ev.now _)
    · refine Ev.step (f := fun q => spec_SmallestTriangle.j1 q l [] 0 false) (fun q => by simp only [spec_SmallestTriangle.l0]; rw [if_neg (by omega)]) ?_
      exact Ev.step (f := fun _ => some ([] : List Int)) (fun q => by simp only [spec_SmallestTriangle.j1]; rw [if_neg (by decide)]) (Ev.now _)
  | true =>
    have h7 := pts_len hf
    have hrp : 0 < (rowL l).length := by
      unfold rowL
      rw [hf, if_pos rfl, List.length_mergeSort, sizesL, List.length_map]
      exact List.length_pos_of_mem (trips_pos h7.1)
    have hs : smallL l = foldX (σ := Unit) (fun _ t => if (sizeAt l t == (rowL l).getD 0 0) = true then .inr [t.1, t.2.1, t.2.2] else .inl ()) (fun _ => []) (trips l.length) () := by
      unfold smallL
      rw [hf, if_pos rfl, foldX_find]
    rw [hs]
    generalize rowL l = row at hrp
    refine tripLoop (σ := Unit) (l0 := fun q _ i => spec_SmallestTriangle.l0 q l row i) (l1 := fun q _ i j => spec_SmallestTriangle.l1 q l row i j) (l2 := fun q _ i j k => spec_SmallestTriangle.l2 q l row i j k) l.length _ _ ?_ ?_ ?_ ?_ ?_ ?_ ()
    · intro s i j k h0 h1 h2 h3 r hT
      refine Ev.step (f := fun q => if sizeAt l (i, j, k) = rd row 0 then some [i, j, k] else spec_SmallestTriangle.l2 q l row i j (k + 1)) (fun q => ?_) ?_
      · simp only [spec_SmallestTriangle.l2, l28Size_L, Option.bind_some]
        rw [if_pos h3, if_pos h0, if_pos (by omega), if_pos (by omega), if_pos (by omega), if_pos (by omega), if_pos (by omega), w64 (x := k + 1) (by omega) (by omega)]
      · by_cases hc : sizeAt l (i, j, k) = rd row 0
        · have hT' := stepT_inr hT (if_pos (beq_iff_eq.2 hc))
          rw [hT']
          exact Ev.iteT hc (Ev.now _)
        · have hT' := stepT_inl hT (if_neg (fun e => hc (beq_iff_eq.1 e)))
          exact Ev.iteF hc hT'
    · intro s i j h0 h1 h2 r h
      refine Ev.step (f := fun q => spec_SmallestTriangle.l1 q l row i (j + 1)) (fun q => ?_) h
      simp only [spec_SmallestTriangle.l2]
      rw [if_neg (by omega), w64 (by omega) (by omega)]
    · intro s i j h0 h1 h2 r h
      refine Ev.step (f := fun q => spec_SmallestTriangle.l2 q l row i j (j + 1)) (fun q => ?_) h
      simp only [spec_SmallestTriangle.l1]
      rw [if_pos h2, w64 (by omega) (by omega)]
    · intro s i h0 h1 r h
      refine Ev.step (f := fun q => spec_SmallestTriangle.l0 q l row (i + 1)) (fun q => ?_) h
      simp only [spec_SmallestTriangle.l1]
      rw [if_neg (by omega), w64 (by omega) (by omega)]
    · intro s i h0 h1 r h
      refine Ev.step (f := fun q => spec_SmallestTriangle.j1 q l row i true) (fun q => by simp only [spec_SmallestTriangle.l0]; rw [if_pos h1, decide_eq_true (by omega)]) ?_
      refine Ev.step (f := fun q => spec_SmallestTriangle.l1 q l row i (i + 1)) (fun q => ?_) h
      simp only [spec_SmallestTriangle.j1]
      rw [if_pos trivial, w64 (by omega) (by omega)]
    · intro s
      refine Ev.step (f := fun q => spec_SmallestTriangle.j1 q l row l.length false) (fun q => by simp only [spec_SmallestTriangle.l0]; rw [if_neg (by omega)]) ?_
      exact Ev.step (f := fun _ => some ([] : List Int)) (fun q => by simp only [spec_SmallestTriangle.j1]; rw [if_neg (by decide)]) (Ev.now _)
theorem impl_Smallest_ev (l : List S25) (hl : l.length ≤ 1099511627776) : Ev (fun k => impl_SmallestTriangle.f k l) (smallL l) := by
  simp only [impl_SmallestTriangle.f]
  refine Ev.bind (impl_ArePoints_ev l hl) ?_
  cases hf : pointsB l with
  | false =>
    unfold smallL
    rw [hf, if_neg (by decide)]
    exact Ev.iteF (by decide) (Ev.now _)
  | true =>
    have h7 := pts_len hf
    have h35 := trips_few l.length h7.2
    have hne : sizesL l ≠ [] := by
      have := List.length_pos_of_mem (trips_pos h7.1)
      intro e
      have h2 : (sizesL l).length = 0 := by rw [e]; rfl
      rw [sizesL, List.length_map] at h2; omega
    have hrow : rowL l = (sizesL l).mergeSort (fun x y => decide (x ≤ y)) := by unfold rowL; rw [hf, if_pos rfl]
    have hmin := min_head (sizesL l) hne
    rw [← hrow] at hmin
    have hmem : (rowL l).getD 0 0 ∈ sizesL l := by
      have hp : (rowL l).Perm (sizesL l) := by rw [hrow]; exact List.mergeSort_perm _ _
      refine hp.subset (getD_mem _ 0 0 ?_)
      rw [hp.length_eq]
      exact List.length_pos_iff.2 hne
    have hsl : (sizesL l).length = (trips l.length).length := by rw [sizesL, List.length_map]
    obtain ⟨i, h1, h2, h3, h4⟩ := index_ev (sizesL l) _ (by omega) hmem
    refine Ev.iteT rfl (Ev.bind (impl_triangles_ev l h7.2) (Ev.bind (triples_eq l.length h7.2) ?_))
    rw [hmin]
    simp only [Option.bind_some]
    refine Ev.bind h4 (Ev.iteT (by omega) (Ev.iteT (by rw [List.length_map]; omega) ?_))
    have hi : i < (trips l.length).length := by omega
    have hsz : ∀ j (hj : j < (trips l.length).length), (sizesL l).getD j 0 = sizeAt l (trips l.length)[j] := by
      intro j hj
      simp [sizesL, List.getD_eq_getElem?_getD, List.getElem?_eq_getElem hj]
    have hfind : (trips l.length).find? (fun t => sizeAt l t == (rowL l).getD 0 0) = some (trips l.length)[i] := by
      rw [List.find?_eq_some_iff_getElem]
      refine ⟨beq_iff_eq.2 (by rw [← hsz i hi]; exact h2), i, hi, rfl, fun j hj => ?_⟩
      have := h3 j hj
      rw [hsz j (by omega)] at this
      simpa using this
    have hrd : rd_T65 ((trips l.length).map mk3) (i : Int) = mk3 (trips l.length)[i] := by
      unfold rd_T65
      simp [List.getD_eq_getElem?_getD, List.getElem?_eq_getElem hi]
    unfold smallL
    rw [hf, if_pos rfl, hfind, hrd]
    exact Ev.now _
end Go.Proofs.Ytijgjpfbhbggdaa.Pure

namespace Go.Proofs.Ytijgjpfbhbggdaa.P
open Go.RowKit Go.Proofs.YtijgjpfbhbggdaaW.PrintWords Go.Proofs.YtijgjpfbhbggdaaW.PrintLast Go.Proofs.YtijgjpfbhbggdaaW.PrintMore
attribute [local go_sem] max2_int min2_int max_two min_two max_three min_three max_four min_four   -- for this text's walks alone
set_option linter.unusedVariables false
set_option linter.unusedSimpArgs false

/-! ### laws_toIntS: function 43 -/
def laws_toIntS.l0 : Nat → List Int → List Int → Int → Option (List Int)
 | 0, _, _, _ => none
 | k + 1, x0, x3, x4 => if x4 < (x0.length : Int) then (if 0 ≤ x4 then (if x4 < (x3.length : Int) then (laws_toIntS.l0 k x0 (x3.set (x4 : Int).toNat (rd x0 x4)) (wrap64 (x4 + 1))) else (none)) else (none)) else (some x3)
def laws_toIntS.f (k : Nat) (l0 : List Int) : Option (List Int) := if 0 ≤ (l0.length : Int) then (if ((l0.length : Int) : Int).toNat ≤ 35184372088832 then (laws_toIntS.l0 k l0 (List.replicate ((l0.length : Int) : Int).toNat 0) 0) else (none)) else (none)
theorem laws_toIntS.mono_l : ∀ k, (∀ y0 y1 y2, LeO (laws_toIntS.l0 k y0 y1 y2) (laws_toIntS.l0 (k + 1) y0 y1 y2))
 | 0 => fun _ _ _ r h => by simp [laws_toIntS.l0] at h
 | k + 1 => by
  have ih0 := laws_toIntS.mono_l k
  ·intro y0 y1 y2
   unfold laws_toIntS.l0
   repeat' first
   | (with_reducible exact ih0 _ _ _)
   | (with_reducible exact LeO.refl _)
   | (with_reducible exact LeO.none _)
   | (with_reducible refine LeO.ite ?_ ?_)
   | (with_reducible refine LeO.bind ?_ (fun _ => ?_))
   | exact ih0 _ _ _
   | exact LeO.none _
   | refine LeO.ite ?_ ?_
   | refine LeO.bind ?_ (fun _ => ?_)
theorem laws_toIntS.mono : ∀ a0 k, LeO (laws_toIntS.f k a0) (laws_toIntS.f (k + 1) a0) := by
 intro a0 k
 have ih0 := laws_toIntS.mono_l k
 unfold laws_toIntS.f
 repeat' first
   | (with_reducible exact ih0 _ _ _)
   | (with_reducible exact LeO.refl _)
   | (with_reducible exact LeO.none _)
   | (with_reducible refine LeO.ite ?_ ?_)
   | (with_reducible refine LeO.bind ?_ (fun _ => ?_))
   | exact ih0 _ _ _
   | exact LeO.none _
   | refine LeO.ite ?_ ?_
   | refine LeO.bind ?_ (fun _ => ?_)
set_option maxHeartbeats 8000000 in
set_option maxRecDepth 100000 in
theorem laws_toIntS.calls (k : Nat) (A0 : Option Addr) (c0 : Nat) (l0 : List Int) (r : List Int) (w : World) (hr0 : Kd.C (Kd.int .i64) w A0 l0.length l0) (hc0 : l0.length ≤ c0) (h : laws_toIntS.f k l0 = some r) :
  Calls Try.prog 43 #[.slice A0 l0.length c0] w fun e w' => ∃ v0_ : Value, e = .returned (v0_) ∧ Kd.R (Kd.int .i64) 3 w' w.heap.size (fun _ => True) v0_ r ∧ Below w.heap.size w w' := by
 have HR0 := Aside0.mk hr0
 have HC0 := Aside0.mk hc0
 clear hr0 hc0
 have HB := Aside0.mk (Below.refl w.heap.size w)
 have H : (if 0 ≤ (l0.length : Int) then (if ((l0.length : Int) : Int).toNat ≤ 35184372088832 then (laws_toIntS.l0 k l0 (List.replicate ((l0.length : Int) : Int).toNat 0) 0) else (none)) else (none)) = some r := h
 clear h
 by_cases c2 : 0 ≤ (l0.length : Int)
 ·rw [if_pos c2] at H
  have c2b0 := eq_true c2
  have c2b1 : decide (0 ≤ (l0.length : Int)) = true := decide_eq_true c2
  clear c2
  by_cases c3 : ((l0.length : Int) : Int).toNat ≤ 35184372088832
  ·rw [if_pos c3] at H
   have c3b0 := eq_true c3
   have c3b1 : decide (((l0.length : Int) : Int).toNat ≤ 35184372088832) = true := decide_eq_true c3
   clear c3
   obtain ⟨y101, hy101⟩ : ∃ y_ : List Int, y_ = (List.replicate ((l0.length : Int) : Int).toNat 0) := ⟨_, rfl⟩
   replace H : (laws_toIntS.l0 k l0 y101 0) = some r := by first | (rw [hy101]; with_reducible exact H) | (have H2_ := (Option.bind_some _ _).symm.trans H; rw [hy101]; with_reducible exact H2_) | (have H2_ := (Option.bind_some _ _).symm.trans H; with_reducible exact H2_) | with_reducible exact H | (rw [hy101]; exact H) | exact H
   have Ny101 := Aside0.mk hy101
   clear hy101
   have H' := Aside0.mk H
   clear H
   go_enter Try.func43, Try.ntmps43
   go_wp2_with (first | ((with_reducible refine gate_dst (N := 7) rfl ?_); refine Kd.R_make (Kd.int .i64) _ 3 rfl (N := 7) rfl 33 _ _ rfl (l0.length : Int) rfl rfl Try.underlying33 (.int .i64 0) 8 info3 rfl (by decide) (by omega) 0 (ok := fun _ => True) (okp := fun _ => True) rfl (fun _ hk => hk) trivial (of_decide_eq_true (by first | (with_reducible assumption) | assumption)) (Nat.le_trans (Nat.mul_le_mul_right _ (of_decide_eq_true (by first | (with_reducible assumption) | assumption) : (l0.length : Int).toNat ≤ 35184372088832)) (by omega)) (Below.refl _ _) (Nat.le_refl _) ?_; intro v102 w4 ho5 hb hg_ hnew_; clear hg_ hnew_; (first | rw [← Ny101.out] at ho5 | (simp only [Int.reduceToNat] at ho5; rw [← Ny101.out] at ho5)); have n0_ := Aside0.mk (Kd.R_lower ho5 (below_size (by repeat (first | (with_reducible first | exact HB.out | apply below_alloc | apply pw_below_drewN | apply below_drew1) | exact HB.out)))); have n1_ := Aside0.mk (below_step (by repeat (first | (with_reducible first | exact HB.out | apply below_alloc | apply pw_below_drewN | apply below_drew1) | exact HB.out)) hb); clear HB; have HO103 := n0_; have HB := n1_; clear n0_ n1_; clear hb ho5))
   go_loopg [4] k (fun kq v4 w' => ∃ (x3_1 : List Int) (x4_1 : Int), v4 = .int .i64 x4_1 ∧ Aside0 (laws_toIntS.l0 kq l0 x3_1 x4_1 = some r) ∧ Aside0 (kq ≤ k) ∧ Aside0 (Kd.R (Kd.int .i64) 3 w' w.heap.size (fun _ => True) v102 x3_1) ∧ Aside0 (Below w.heap.size w w'))
   case atStart => exact ⟨(y101), (0), (by first | rfl | (simp; done) | (simp [*]; done)), H', ⟨Nat.le_refl _⟩, ⟨by (with_reducible repeat (first | apply Kd.R_alloc | apply Kd.R_drewN | apply Kd.R_drew)); exact HO103.out⟩, ⟨by repeat (first | (with_reducible first | exact HB.out | apply below_alloc | apply pw_below_drewN | apply below_drew1) | exact HB.out)⟩⟩
   case round =>
    clear H'
    try clear c2
    try clear c2b0
    try clear c2b1
    try clear p2
    try clear c3
    try clear c3b0
    try clear c3b1
    try clear c4
    obtain ⟨x3_1, x4_1, rfl, HA, HK1, HO_3, HB⟩ := hrel
    cases gk with
    | zero => exact absurd HA.out (by simp [laws_toIntS.l0])
    | succ k1 =>
     have H := HA.out
     clear HA
     simp only [laws_toIntS.l0] at H
     by_cases c6 : x4_1 < (l0.length : Int)
     ·rw [if_pos c6] at H
      have c6b0 : decide (x4_1 < (l0.length : Int)) = true := decide_eq_true c6
      clear c6
      by_cases c7 : 0 ≤ x4_1
      ·rw [if_pos c7] at H
       have c7b0 : decide (0 ≤ x4_1) = true := decide_eq_true c7
       clear c7
       by_cases c8 : x4_1 < (x3_1.length : Int)
       ·rw [if_pos c8] at H
        have c8b0 : decide (x4_1 < (x3_1.length : Int)) = true := decide_eq_true c8
        clear c8
        obtain ⟨y105, hy105⟩ : ∃ y_ : List Int, y_ = (x3_1.set (x4_1 : Int).toNat (rd l0 x4_1)) := ⟨_, rfl⟩
        replace H : (laws_toIntS.l0 k1 l0 y105 (wrap64 (x4_1 + 1))) = some r := by first | (rw [hy105]; with_reducible exact H) | (have H2_ := (Option.bind_some _ _).symm.trans H; rw [hy105]; with_reducible exact H2_) | (have H2_ := (Option.bind_some _ _).symm.trans H; with_reducible exact H2_) | with_reducible exact H | (rw [hy105]; exact H) | exact H
        have Ny105 := Aside0.mk hy105
        clear hy105
        have H' := Aside0.mk H
        clear H
        have p104 : 0 ≤ (x4_1 : Int) := of_decide_eq_true (by first | (with_reducible assumption) | assumption)
        have q104 : x4_1 < (l0.length : Int) := of_decide_eq_true (by first | (with_reducible assumption) | assumption)
        obtain ⟨ad104, e104, hx104_0⟩ := Kd.at_int HR0.out x4_1 p104 q104
        cases e104
        replace hx104_0 := (HB.out.cell (World.block_lt_of_cell? w _ hx104_0)).trans hx104_0
        replace p104 := eq_true p104
        replace q104 := eq_true q104
        have p9 : 0 ≤ (x4_1 : Int) := of_decide_eq_true (by first | (with_reducible assumption) | assumption)
        have q9 : (x4_1 : Int) < ((x3_1.length : Int) : Int) := of_decide_eq_true (by first | (with_reducible assumption) | assumption)
        obtain ⟨go9, co9, eo9, gb9, gl9, cl9, HG9⟩ := Kd.R_form HO_3.out (by omega)
        (first | cases eo9 | (injection eo9 with ea_ en_ ec_; (first | subst ea_ | (injection ea_ with ea_; subst ea_)); subst ec_; clear en_))
        have GB9 := Aside0.mk gb9
        have GG9 := Aside0.mk HG9
        clear gb9 gl9 HG9
        obtain ⟨hx9_0, hf9_0⟩ := Kd.R_celln 0 HO_3.out (x4_1 : Int) p9 q9
        replace p9 := eq_true p9
        replace q9 := eq_true q9
        have HP10 := Kd.R_putg HO_3.out (x4_1 : Int) (rd l0 x4_1)
        go_wp2_with (first | ((with_reducible refine gate_store (t := 3) (p := 20) rfl ?_); refine store_event (t := 3) (p := 20) (v := ?vo_w11) (w1 := (wr.setCell ⟨go9, (x4_1 : Int).toNat, none⟩ (.int .i64 (rd l0 x4_1)))) ?hg ?ho ?hn ?hr ?_; (case ho => rfl); (case hg => rfl); (case hn => rfl); (case hr => first | (go_simp; done) | (go_simp; rfl)); intro w11 hw; have hg : wr.grownBy w11 (some go9) := (by rw [hw]; exact HP10.2); have hp_ : Kd.R (Kd.int .i64) 3 w11 w.heap.size (fun _ => True) (.slice (some ⟨go9, 0, none⟩) x3_1.length co9) y105 := (by rw [hw, Ny105.out]; exact HP10.1); clear HP10; have n0_ := Aside0.mk (hp_); have n1_ := Aside0.mk ((by rw [hw]; exact below_set (HB.out) GB9.out : Below w.heap.size w w11)); clear HO_3; clear HB; have HO_3 := n0_; have HB := n1_; clear n0_ n1_; clear hg hw hp_))
        go_roundg k1
        case measure => have := HK1.out; omega
        case rel => exact ⟨(y105), (wrap64 (x4_1 + 1)), (by first | rfl | (simp; done) | (simp [*]; done)), H', ⟨by have := HK1.out; omega⟩, ⟨by (with_reducible repeat (first | apply Kd.R_alloc | apply Kd.R_drewN | apply Kd.R_drew)); exact HO_3.out⟩, ⟨by repeat (first | (with_reducible first | exact HB.out | apply below_alloc | apply pw_below_drewN | apply below_drew1) | exact HB.out)⟩⟩
       ·rw [if_neg c8] at H
        exact absurd H (by simp)
      ·rw [if_neg c7] at H
       exact absurd H (by simp)
     ·rw [if_neg c6] at H
      have c6b0 : decide (x4_1 < (l0.length : Int)) = false := decide_eq_false c6
      clear c6
      obtain rfl := Option.some.inj H
      go_wp2
      go_ret
      exact ⟨_, by first | rfl | (simp [errW_none, errW_some] <;> rfl) | (simp [*, errW_none, errW_some] <;> rfl), by (with_reducible repeat (first | apply Kd.R_alloc | apply Kd.R_drewN | apply Kd.R_drew)); exact HO_3.out, by repeat (first | (with_reducible first | exact HB.out | apply below_alloc | apply pw_below_drewN | apply below_drew1) | exact HB.out)⟩
  ·rw [if_neg c3] at H
   exact absurd H (by simp)
 ·rw [if_neg c2] at H
  exact absurd H (by simp)

end Go.Proofs.Ytijgjpfbhbggdaa.P

namespace Go.Proofs.Ytijgjpfbhbggdaa.Pure
open Go.RowKit Go.Proofs.Ytijgjpfbhbggdaa.P Go.Proofs.YtijgjpfbhbggdaaW.PrintWords Go.Proofs.YtijgjpfbhbggdaaW.PrintLast
set_option linter.unusedSimpArgs false
set_option linter.unusedVariables false
open Go.Proofs.Ytijgjpfbhbggdaa.Com
theorem toIntS_l0 (l : List Int) (hm : l.length ≤ 1099511627776) (d : Nat) : ∀ (k : Nat) (i : Int) (out : List Int), 0 ≤ i → i + d = l.length → out.length = l.length → d < k →
    laws_toIntS.l0 k l out i = some (out.take i.toNat ++ l.drop i.toNat) := by
  induction d with
  | zero =>
    intro k i out h0 hi ho hk
    obtain ⟨k, rfl, _⟩ := succ_of_lt hk
    simp only [laws_toIntS.l0]
    rw [if_neg (by omega), List.take_of_length_le (by omega), List.drop_of_length_le (by omega)]; simp
  | succ d ih =>
    intro k i out h0 hi ho hk
    obtain ⟨k, rfl, hk⟩ := succ_of_lt hk
    have hlt : i.toNat < out.length := by omega
    simp only [laws_toIntS.l0]
    rw [if_pos (by omega), if_pos h0, if_pos (by omega), w64 (by omega) (by omega), ih k (i + 1) _ (by omega) (by omega) (by simpa using ho) (by omega)]
    rw [show (i + 1).toNat = i.toNat + 1 from by omega, set_take_succ _ _ _ hlt, drop_cons l i.toNat 0 (by omega)]
    simp [rd]
theorem toIntS_eq (l : List Int) (hm : l.length ≤ 1048576) : Ev (fun k => laws_toIntS.f k l) l := by
  refine ⟨l.length + 1, fun k hk => ?_⟩
  dsimp only
  unfold laws_toIntS.f
  rw [if_pos (by omega), if_pos (by omega), toIntS_l0 l (by omega) l.length k 0 _ (by omega) (by omega) (by simp) (by omega)]
  simp
theorem eqIntS_l0 (a : List Int) (hm : a.length ≤ 1099511627776) (d : Nat) : ∀ (k : Nat) (i : Int), 0 ≤ i → i + d = a.length → d < k → laws_eqIntS.l0 k a a i = some true := by
  induction d with
  | zero =>
    intro k i h0 hi hk
    obtain ⟨k, rfl, _⟩ := succ_of_lt hk
    simp only [laws_eqIntS.l0]
    rw [if_neg (by omega)]
  | succ d ih =>
    intro k i h0 hi hk
    obtain ⟨k, rfl, hk⟩ := succ_of_lt hk
    simp only [laws_eqIntS.l0, if_true]
    rw [if_pos (by omega), if_pos h0, if_pos (by omega), w64 (by omega) (by omega), ih k (i + 1) (by omega) (by omega) (by omega)]
theorem eqIntS_refl (a : List Int) (hm : a.length ≤ 1099511627776) : Ev (fun k => laws_eqIntS.f k a a) true := by
  refine ⟨a.length + 1, fun k hk => ?_⟩
  dsimp only
  unfold laws_eqIntS.f
  rw [if_pos rfl, eqIntS_l0 a hm a.length k 0 (by omega) (by omega) (by omega)]
end Go.Proofs.Ytijgjpfbhbggdaa.Pure

namespace Go.Proofs.Ytijgjpfbhbggdaa.Pure
open Go.RowKit Go.Proofs.Ytijgjpfbhbggdaa.P Go.Proofs.YtijgjpfbhbggdaaW.PrintWords Go.Proofs.YtijgjpfbhbggdaaW.PrintLast
set_option linter.unusedSimpArgs false
set_option linter.unusedVariables false
open Go.Proofs.Ytijgjpfbhbggdaa.Com
def marksInt (x : Int) : Nat → List Int
  | 0 => []
  | d + 1 => x :: marksInt (x + 1) d
theorem marksInt_length (x : Int) (d : Nat) : (marksInt x d).length = d := by
  induction d generalizing x with
  | zero => rfl
  | succ d ih => simp [marksInt, ih]
theorem markInt_l0 (d : Nat) : ∀ (k : Nat) (i x : Int) (l : List Int), l.length ≤ 1099511627776 → 0 ≤ i → i + d = l.length → 0 ≤ x → x + d ≤ 4611686018427387904 → d < k →
    laws_markIntS.l0 k l x i = some (x + d, l.take i.toNat ++ marksInt x d) := by
  induction d with
  | zero =>
    intro k i x l hm h0 hi hx hb hk
    obtain ⟨k, rfl, _⟩ := succ_of_lt hk
    simp only [laws_markIntS.l0]
    rw [if_neg (by omega), List.take_of_length_le (by omega)]; simp [marksInt]
  | succ d ih =>
    intro k i x l hm h0 hi hx hb hk
    obtain ⟨k, rfl, hk⟩ := succ_of_lt hk
    have hlt : i.toNat < l.length := by omega
    simp only [laws_markIntS.l0]
    rw [if_pos (by omega), if_pos h0]
    rw [w64 (by omega) (by omega), w64 (by omega) (by omega), ih k (i + 1) _ _ (by simpa using hm) (by omega) (by simpa using (by omega : i + 1 + (d : Int) = l.length)) (by omega) (by omega) (by omega)]
    rw [show (i + 1).toNat = i.toNat + 1 from by omega, set_take_succ _ _ _ hlt]
    simp only [marksInt, List.append_assoc, List.singleton_append]
    congr 2
    omega
theorem heldInt_l0 (d : Nat) : ∀ (k : Nat) (i x : Int) (l : List Int), l.length ≤ 1099511627776 → 0 ≤ i → i + d = l.length → 0 ≤ x → x + d ≤ 4611686018427387904 → l.drop i.toNat = marksInt x d → d < k →
    laws_heldIntS.l0 k l x i = some (x + d) := by
  induction d with
  | zero =>
    intro k i x l hm h0 hi hx hb hl hk
    obtain ⟨k, rfl, _⟩ := succ_of_lt hk
    simp only [laws_heldIntS.l0]
    rw [if_neg (by omega)]; simp
  | succ d ih =>
    intro k i x l hm h0 hi hx hb hl hk
    obtain ⟨k, rfl, hk⟩ := succ_of_lt hk
    have hlt : i.toNat < l.length := by omega
    rw [drop_cons l i.toNat 0 hlt] at hl
    simp only [marksInt, List.cons.injEq] at hl
    have hr : rd l i = x := hl.1
    simp only [laws_heldIntS.l0]
    rw [if_pos (by omega), if_pos h0, if_pos hr, w64 (by omega) (by omega), w64 (by omega) (by omega), ih k (i + 1) _ l hm (by omega) (by omega) (by omega) (by omega) (by rw [show (i + 1).toNat = i.toNat + 1 from by omega]; exact hl.2) (by omega)]
    congr 1
    omega
theorem markInt_eq (l : List Int) (hm : l.length ≤ 1099511627776) : Ev (fun k => laws_markIntS.f k l 1) (1 + (l.length : Int), marksInt 1 l.length) := by
  refine ⟨l.length + 1, fun k hk => ?_⟩
  dsimp only
  unfold laws_markIntS.f
  rw [markInt_l0 l.length k 0 1 l hm (by omega) (by omega) (by omega) (by omega) (by omega)]; simp
theorem heldInt_eq (n : Nat) (hm : n ≤ 1099511627776) : Ev (fun k => laws_heldIntS.f k (marksInt 1 n) 1) (1 + (n : Int)) := by
  refine ⟨n + 1, fun k hk => ?_⟩
  dsimp only
  unfold laws_heldIntS.f
  rw [heldInt_l0 n k 0 1 _ (by rw [marksInt_length]; exact hm) (by omega) (by rw [marksInt_length]; omega) (by omega) (by omega) (by simp) (by omega)]
end Go.Proofs.Ytijgjpfbhbggdaa.Pure

namespace Go.Proofs.Ytijgjpfbhbggdaa.Pure
open Go.RowKit Go.Proofs.Ytijgjpfbhbggdaa.P Go.Proofs.YtijgjpfbhbggdaaW.PrintWords Go.Proofs.YtijgjpfbhbggdaaW.PrintLast
set_option linter.unusedSimpArgs false
set_option linter.unusedVariables false
open Go.Proofs.Ytijgjpfbhbggdaa.Com
def marksPoint (x : Int) : Nat → List S25
  | 0 => []
  | d + 1 => ⟨x, x + 1⟩ :: marksPoint (x + 2) d
theorem marksPoint_length (x : Int) (d : Nat) : (marksPoint x d).length = d := by
  induction d generalizing x with
  | zero => rfl
  | succ d ih => simp [marksPoint, ih]
theorem markPoint_l0 (d : Nat) : ∀ (k : Nat) (i x : Int) (l : List S25), l.length ≤ 1099511627776 → 0 ≤ i → i + d = l.length → 0 ≤ x → x + 2 * d ≤ 4611686018427387904 → d < k →
    laws_markPointS.l0 k l x i = some (x + 2 * d, l.take i.toNat ++ marksPoint x d) := by
  induction d with
  | zero =>
    intro k i x l hm h0 hi hx hb hk
    obtain ⟨k, rfl, _⟩ := succ_of_lt hk
    simp only [laws_markPointS.l0]
    rw [if_neg (by omega), List.take_of_length_le (by omega)]; simp [marksPoint]
  | succ d ih =>
    intro k i x l hm h0 hi hx hb hk
    obtain ⟨k, rfl, hk⟩ := succ_of_lt hk
    have hlt : i.toNat < l.length := by omega
    simp only [laws_markPointS.l0]
    rw [if_pos (by omega), if_pos h0]
    have w1 : wrap64 (x + 1) = x + 1 := w64 (by omega) (by omega)
    have w2 : wrap64 (x + 1 + 1) = x + 2 := by rw [w64 (by omega) (by omega)]; omega
    have wi : wrap64 (i + 1) = i + 1 := w64 (by omega) (by omega)
    simp only [Option.bind_some, w1, w2, wi, rd_T25, List.set_set, getD_set _ _ _ _ (show i.toNat < (l.set i.toNat _).length from by simpa using hlt), getD_set _ _ _ _ hlt]
    rw [ih k (i + 1) _ _ (by simpa using hm) (by omega) (by simpa using (by omega : i + 1 + (d : Int) = l.length)) (by omega) (by omega) (by omega)]
    rw [show (i + 1).toNat = i.toNat + 1 from by omega, set_take_succ _ _ _ hlt]
    simp only [marksPoint, List.append_assoc, List.singleton_append]
    congr 2
    omega
theorem markPoint_eq (l : List S25) (hm : l.length ≤ 1099511627776) : Ev (fun k => laws_markPointS.f k l 1) (1 + 2 * (l.length : Int), marksPoint 1 l.length) := by
  refine ⟨l.length + 1, fun k hk => ?_⟩
  dsimp only
  unfold laws_markPointS.f
  rw [markPoint_l0 l.length k 0 1 l hm (by omega) (by omega) (by omega) (by omega) (by omega)]; simp
end Go.Proofs.Ytijgjpfbhbggdaa.Pure

namespace Go.Proofs.Ytijgjpfbhbggdaa.Pure
open Go.RowKit Go.Proofs.Ytijgjpfbhbggdaa.P Go.Proofs.YtijgjpfbhbggdaaW.PrintWords Go.Proofs.YtijgjpfbhbggdaaW.PrintLast Go.Proofs.Ytijgjpfbhbggdaa.Com
set_option linter.unusedSimpArgs false
set_option linter.unusedVariables false

theorem FnExactSmallestTriangle : laws_FnExactSmallestTriangle.Pure := by
  rintro x ⟨hm, _⟩
  apply Ev.rounds
  simp only [laws_FnExactSmallestTriangle.f, szPointS_eq x hm, Option.bind_some]
  by_cases h : x.length ≤ 1048576
  · rw [if_pos h]
    refine Ev.iteF (by omega) ?_
    have hl : (x.map convPoint).length ≤ 1048576 := by simpa using h
    obtain ⟨r, h1, h2, hr⟩ := (fun l hl => ⟨_, spec_Smallest_ev l hl, impl_Smallest_ev l hl, by have := smallL_length l; omega⟩ : ∀ (l : List S25), l.length ≤ 1099511627776 → ∃ r, Ev (fun k => spec_SmallestTriangle.f k l) r ∧ Ev (fun k => impl_SmallestTriangle.f k l) r ∧ r.length ≤ 35) (x.map convPoint) (by omega)
    refine Ev.bind (toPointS_eq x h) (Ev.bind h1 (Ev.bind (toPointS_eq x h) (Ev.bind h2 (Ev.bind (eqIntS_refl r (by omega)) (Ev.iteT rfl (Ev.bind (toPointS_eq x h) (Ev.bind (eqPointS_refl _ (by omega)) (Ev.iteT rfl (Ev.bind (markPoint_eq _ (by omega)) (Ev.iteF (by simp only []; omega) (Ev.bind (eqIntS_refl r (by omega)) ?_)))))))))))
    refine Ev.step (fun q => by simp only [laws_FnExactSmallestTriangle.j0, Bool.not_true, Bool.false_eq_true, if_false]; rfl) ?_
    exact Ev.bind (markInt_eq r (by omega)) (Ev.bind (heldInt_eq r.length (by omega)) (Ev.iteF (by omega) (Ev.iteT rfl (Ev.bind (toPointS_eq x h) (Ev.bind h2 (Ev.bind (eqIntS_refl r (by omega)) (Ev.iteT rfl (Ev.bind (heldInt_eq r.length (by omega)) (Ev.iteF (by omega) (Ev.iteT rfl (Ev.now true)))))))))))
  · rw [if_neg h]
    exact Ev.iteT (by omega) (Ev.now true)
end Go.Proofs.Ytijgjpfbhbggdaa.Pure

namespace Go.Proofs.Ytijgjpfbhbggdaa.Opn
open Go Go.Deep Go.ChangeShapes Go.WideShapes Go.Proofs.YtijgjpfbhbggdaaW.PrintWords

section
variable {H : Type} (enc : TypeId × Value → H) (P : Program) (w : World) (base : Nat) (spare : Nat → Bool) (held : Bool)
/-- Whatever is read at type t is told by the kind d, and Q holds of it. -/
def Opens {α : Type} (d : Kd α) (t : TypeId) (Q : α → Prop) : Prop :=
  ∀ (fuel : Nat) (cs : List Value) (x : DataW H × List MemPlace), DataW.trod enc P w base spare held fuel t cs = some x → ∃ a, d.K w a cs ∧ Q a
end
section
variable {H : Type} {enc : TypeId × Value → H} {P : Program} {w : World} {base : Nat} {spare : Nat → Bool} {held : Bool}
theorem opens_int {t : TypeId} {k : IntKind} (ht : P.underlying t = some (.int k)) : Opens enc P w base spare held (Kd.int k) t (fun n => (Lit.int k n).wf = true) := fun fuel cs x h => by
  obtain ⟨n, rfl, _, hw⟩ := DataW.trod_int ht h
  exact ⟨n, rfl, hw⟩
theorem opens_bool {t : TypeId} (ht : P.underlying t = some .bool) : Opens enc P w base spare held Kd.bool t (fun _ => True) := fun fuel cs x h => by
  obtain ⟨n, rfl, _⟩ := DataW.trod_bool ht h
  exact ⟨n, rfl, trivial⟩
theorem opens_string {t : TypeId} (ht : P.underlying t = some .string) : Opens enc P w base spare held Kd.string t (fun s => s.size ≤ maxLen) := fun fuel cs x h => by
  obtain ⟨n, rfl, _, hs⟩ := DataW.trod_string ht h
  exact ⟨n, rfl, hs⟩
theorem opens_iso {α β : Type} {d : Kd α} {t : TypeId} {Q : α → Prop} (h : Opens enc P w base spare held d t Q) (f : β → α) (g : α → β) (hfg : ∀ a, f (g a) = a) : Opens enc P w base spare held (Kd.iso d f) t (fun b => Q (f b)) := fun fuel cs x hx => by
  obtain ⟨a, hK, hQ⟩ := h fuel cs x hx
  exact ⟨g a, by show d.K w (f (g a)) cs; rw [hfg]; exact hK, by show Q (f (g a)); rw [hfg]; exact hQ⟩
/-- A list of fields, one behind the other, from the cell o on. -/
def OpensFs (enc : TypeId × Value → H) (P : Program) (w : World) (base : Nat) (spare : Nat → Bool) (held : Bool) {α : Type} (d : Kd α) (o : Nat) (fs : List Field) (Q : α → Prop) : Prop :=
  ∀ (n : Nat) (cs : List Value), cs.length = o + d.sz → (∀ f ∈ fs, ∃ x, DataW.trod enc P w base spare held n f.type ((cs.drop f.offset).take (P.cellsOf f.type)) = some x) → ∃ a, d.K w a (cs.drop o) ∧ Q a
theorem opensFs_one {α : Type} {d : Kd α} {o : Nat} {f : Field} {Q : α → Prop} (h : Opens enc P w base spare held d f.type Q) (ho : f.offset = o) (hc : P.cellsOf f.type = d.sz) : OpensFs enc P w base spare held d o [f] Q := by
  intro n cs hl hf
  obtain ⟨x, hx⟩ := hf f (by simp)
  obtain ⟨a, hK, hQ⟩ := h n _ x hx
  refine ⟨a, ?_, hQ⟩
  rwa [ho, hc, List.take_of_length_le (by rw [List.length_drop]; omega)] at hK
theorem opensFs_cons {α β : Type} {d : Kd α} {e : Kd β} {o : Nat} {f : Field} {fs : List Field} {Q : α → Prop} {R : β → Prop} (h : Opens enc P w base spare held d f.type Q) (hs : OpensFs enc P w base spare held e (o + d.sz) fs R) (ho : f.offset = o) (hc : P.cellsOf f.type = d.sz) :
    OpensFs enc P w base spare held (Kd.pair d e) o (f :: fs) (fun x => Q x.1 ∧ R x.2) := by
  intro n cs hl hf
  have hz : (Kd.pair d e).sz = d.sz + e.sz := rfl
  rw [hz] at hl
  obtain ⟨x, hx⟩ := hf f (by simp)
  obtain ⟨a, hK, hQ⟩ := h n _ x hx
  obtain ⟨b, hK', hR⟩ := hs n cs (by omega) (fun g hg => hf g (by simp [hg]))
  rw [ho, hc] at hK
  refine ⟨(a, b), ⟨(cs.drop o).take d.sz, cs.drop (o + d.sz), ?_, hK, hK'⟩, hQ, hR⟩
  rw [← List.drop_drop, List.take_append_drop]
theorem opens_struct {α : Type} {d : Kd α} {t : TypeId} {fs : Array Field} {Q : α → Prop} (ht : P.underlying t = some (.struct fs)) (hc : P.cellsOf t = d.sz) (h : OpensFs enc P w base spare held d 0 fs.toList Q) : Opens enc P w base spare held d t Q := fun fuel cs x hx => by
  obtain ⟨xs, n, rfl, rfl, hl, hlen, hf⟩ := DataW.trod_struct ht hx
  obtain ⟨a, hK, hQ⟩ := h n cs (by omega) (fun f hm => by
    obtain ⟨i, hi, rfl⟩ := List.mem_iff_getElem.1 hm
    have hi' : i < fs.size := by simpa using hi
    have := hf i fs[i] (by simp [hi'])
    rw [List.getElem?_eq_getElem (by omega)] at this
    exact ⟨_, by simpa using this⟩)
  exact ⟨a, by simpa using hK, hQ⟩
theorem opens_slice {α : Type} {d : Kd α} {t e : TypeId} {Q : α → Prop} (ht : P.underlying t = some (.slice e)) (hc : P.cellsOf e = d.sz) (h : Opens enc P w base spare held d e Q) :
    Opens enc P w base spare held (Kd.slice e d) t (fun xs => xs.length ≤ maxLen ∧ ∀ x ∈ xs, Q x) := fun fuel cs x hx => by
  rcases open_slice ht hx with ⟨rfl, _⟩ | ⟨a, len, cap, m, n, D, Pl, rfl, _, hl, hm, hmm, _, hel⟩
  · exact ⟨[], ⟨none, 0, rfl, Nat.le_refl _, ⟨rfl, by simp, fun h => by simp at h⟩⟩, by simp⟩
  have hlm : len ≤ m := by rw [hmm]; split <;> omega
  have hi : ∀ i : Fin len, ∃ y : α, (∃ cs', w.cells? base (a.add (i.val * P.cellsOf e)) (P.cellsOf e) = some cs' ∧ d.K w y cs') ∧ Q y := fun i => by
    obtain ⟨cs', h1, h2⟩ := hel i.val (by omega)
    obtain ⟨y, hK, hQ⟩ := h _ _ _ h2
    exact ⟨y, ⟨cs', h1, hK⟩, hQ⟩
  let f : Fin len → α := fun i => Classical.choose (hi i)
  have hfs : ∀ i : Fin len, (∃ cs', w.cells? base (a.add (i.val * P.cellsOf e)) (P.cellsOf e) = some cs' ∧ d.K w (f i) cs') ∧ Q (f i) := fun i => Classical.choose_spec (hi i)
  have hlen : (List.ofFn f).length = len := by simp
  have hmax : cap ≤ 9223372036854775807 := by unfold maxLen at hm; omega
  refine ⟨List.ofFn f, ⟨some a, cap, by rw [hlen], by omega, ⟨rfl, by omega, fun _ => ⟨a, rfl, fun j p hj => ?_⟩⟩⟩, by omega, fun y hy => ?_⟩
  · obtain ⟨hj', rfl⟩ := List.getElem?_eq_some_iff.1 hj
    obtain ⟨⟨cs', h1, hK⟩, _⟩ := hfs ⟨j, by omega⟩
    obtain ⟨_, hcl, hcell⟩ := World.cells?_some h1
    refine ⟨cs', by omega, by simpa using hK, fun i u hu => ?_⟩
    have hiu : i < P.cellsOf e := by
      have := (List.getElem?_eq_some_iff.1 hu).1
      omega
    have := hcell i hiu
    rw [Go.Deep.add_add, hu, hc] at this
    exact this
  · obtain ⟨i, rfl⟩ := (List.mem_ofFn).1 hy
    exact (hfs i).2
end
end Go.Proofs.Ytijgjpfbhbggdaa.Opn

namespace Go.Proofs.Ytijgjpfbhbggdaa.fnExactSmallestTriangle
open Go.ChangeShapes Go.WideShapes Go.ChangeAt Go.RowKit Go.Proofs.Ytijgjpfbhbggdaa.P Go.Proofs.Ytijgjpfbhbggdaa.Opn Go.Proofs.YtijgjpfbhbggdaaW.PrintWords
open Go.ChangeMaps (open_string shut_string)
set_option linter.unusedVariables false
set_option linter.unusedSimpArgs false
theorem own : ownKnob Try.prog.godebug = none := by kernel_rfl
theorem laidOut : laidOutB Try.prog = true := by kernel_rfl
set_option maxRecDepth 100000 in
theorem lifted (os : Os) (started : os.Started) (H : Type) (enc : TypeId × Value → H) :
  ReturnsInHanded {} Try.checked os 5 .any (Rows.fnExactSmallestTriangleSpec.pre6 enc Try.prog Try.f5 Rows.fnExactSmallestTriangleRow.domain false) (Rows.fnExactSmallestTriangleSpec.post enc Try.prog Try.f5 false true false false) := by
 refine returnsInHanded_of_change_sized (C := Try.checked) own started (by kernel_rfl) Try.func5
  (ChangeSpec.witness6 (enc := enc) (C := Try.checked) false ⟨#[], #[.slice none 0 0], []⟩ 8 (by kernel_rfl) (by kernel_rfl) (by kernel_rfl) (by kernel_rfl)) ?_
 intro W base args ds gs before hval0 hW hcnd hsz0 _
 have hval : ∀ (j : Nat) t v, Try.f5.params[j]? = some t → args[j]? = some v → Value.okWide Try.prog W .any base t v := hval0
 have hW' := hW
 obtain ⟨p, q, hA0, hV, rfl, hfz, hnd⟩ := hW
 have hA : DataW.TrodAll enc Try.prog W 0 (fun _ => true) true Try.f5.params.toList args.toList ds p := hA0
 rw [Try.params5] at hA hval
 obtain ⟨v0, vs0, d0, ds0, p0, q0, hargs, rfl, rfl, h0, r0⟩ := trodAll_cons hA
 obtain ⟨rfl, rfl, rfl⟩ := trodAll_nil r0
 obtain rfl : args = #[v0] := by cases args; simp_all
 obtain ⟨rfl, rfl⟩ := trodVars_none hV
 have k0 := h0
 have lt0 : ∀ x ∈ p0, x.block < W.heap.size := by obtain ⟨m, hm⟩ := k0; exact DataW.trod_lt m _ _ _ hm
 obtain ⟨a0, len0, cap0, rfl⟩ := okWide_slice Try.underlying22 (hval 0 22 v0 rfl rfl)
 obtain ⟨x0, ⟨A0, c0, e0, hc0, hC0⟩, y0⟩ : ∃ xs : List (S56), (Kd.slice 56 k56).K W xs [.slice a0 len0 cap0] ∧ (xs.length ≤ maxLen ∧ ∀ y0 ∈ xs, ((Lit.int .i64 y0.f0).wf = true ∧ (Lit.int .i64 y0.f1).wf = true)) := by obtain ⟨m, hm⟩ := h0; exact (opens_slice Try.underlying22 (by kernel_rfl) (opens_iso (opens_struct Try.underlying56 (by kernel_rfl) (opensFs_cons (opens_int Try.underlying3) (opensFs_one (opens_int Try.underlying3) rfl (by kernel_rfl)) rfl (by kernel_rfl))) (fun x : S56 => (x.f0, x.f1)) (fun a => (⟨a.1, a.2⟩ : S56)) (fun _ => rfl))) m _ _ hm
 simp only [List.cons.injEq, Value.slice.injEq, and_true] at e0
 obtain ⟨rfl, rfl, rfl⟩ := e0
 clear hA0 hval0 hsz0
 obtain ⟨k, hP⟩ := Pure.FnExactSmallestTriangle x0 y0
 refine (laws_FnExactSmallestTriangle.calls k _ _ x0 true W hC0 hc0 hP).mono ?_
 rintro e W' ⟨he, bel0⟩
 have bel : Below W.heap.size W W' := bel0
 subst he
 exact ⟨_, rfl, _, _, _, [], _, [], hW', trodAll_mk1 (shut_bool Try.underlying4 _), (trodAll_cons_mk (Below.trod laidOut (by kernel_rfl) (of_decide_eq_true (by kernel_rfl)) k0 bel lt0) trodAll_mk0), rfl, bel.frame _, fun h => by cases h⟩
theorem over : Rows.fnExactSmallestTriangleRow.holds Try.pinned (OpenSpec.ofChange Rows.fnExactSmallestTriangleSpec) :=
 OpenClaim.holds_of_wide 5 Try.f5 rfl rfl rfl rfl rfl rfl rfl ⟨rfl, rfl, rfl, rfl, rfl⟩ rfl rfl rfl rfl rfl (by kernel_rfl) Try.func5 (by kernel_rfl)
  (of_decide_eq_true (by kernel_rfl)) (by unfold Func.isWrapper; first | (rw [if_pos (by decide +kernel)]; kernel_rfl) | (rw [if_neg (by decide +kernel)]; exact ⟨rfl, rfl⟩))
  (fun os started H enc _ => lifted os started H enc)
theorem proved : Rows.FnExactSmallestTriangleSaid := over
#print axioms proved
end Go.Proofs.Ytijgjpfbhbggdaa.fnExactSmallestTriangle
namespace Go.Proofs.Ytijgjpfbhbggdaa
/-- The row, under a short name, for the claim. -/
theorem fnExactSmallestTriangle_holds : Rows.FnExactSmallestTriangleSaid := fnExactSmallestTriangle.proved
end Go.Proofs.Ytijgjpfbhbggdaa

