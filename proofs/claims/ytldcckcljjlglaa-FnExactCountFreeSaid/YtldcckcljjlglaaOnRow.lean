/- The reference's and the program's OnRow come to one answer; the list's length is at most 2^40. -/
import Derived.Test.YtldcckcljjlglaaAreLines
import Derived.Test.YtldcckcljjlglaaPrime
import Derived.Test.YtldcckcljjlglaaPF20
import Derived.Test.YtldcckcljjlglaaPF21
import Derived.Test.YtldcckcljjlglaaPF90
namespace Go.Proofs.Ytldcckcljjlglaa.Pure
open Go.RowKit Go.Proofs.Ytldcckcljjlglaa.P Go.Proofs.YtldcckcljjlglaaW.PrintWords Go.Proofs.YtldcckcljjlglaaW.PrintLast Go.Proofs.Ytldcckcljjlglaa.Com
set_option linter.unusedSimpArgs false
set_option linter.unusedVariables false

/-- Is the point (x, y) on a line, modulo p? -/
def onB (l : List S40) (p x y : Int) (i : Int) : Bool := Int.tmod (wrap64 ((wrap64 ((wrap64 ((rd_T40 l i).f0 * x)) + (wrap64 ((rd_T40 l i).f1 * y)))) - (rd_T40 l i).f2)) p == 0
def cS (l : List S40) (p x y : Int) (s i : Int) : Int := wrap64 (s + if onB l p x y i = true then 1 else 0)
def cI (l : List S40) (p x y : Int) (s i : Int) : Int := if onB l p x y i = true then wrap64 (s + 1) else s
theorem c_same (l : List S40) (p x y : Int) (L : List Int) : ∀ s : Int, 0 ≤ s → s + L.length ≤ 1000 → L.foldl (cS l p x y) s = L.foldl (cI l p x y) s ∧ 0 ≤ L.foldl (cI l p x y) s ∧ L.foldl (cI l p x y) s ≤ s + L.length := by
  induction L with
  | nil => intro s h _; exact ⟨rfl, h, by simp⟩
  | cons i L ih =>
    intro s h0 h1
    simp only [List.length_cons] at h1 ⊢
    simp only [List.foldl_cons, cS, cI]
    cases onB l p x y i with
    | true =>
      simp only [if_true]; rw [w64 (by omega) (by omega)]
      obtain ⟨e, a, b⟩ := ih (s + 1) (by omega) (by omega)
      exact ⟨e, a, by omega⟩
    | false =>
      simp only [Bool.false_eq_true, if_false]; rw [w64 (by omega) (by omega), Int.add_zero]
      obtain ⟨e, a, b⟩ := ih s (by omega) (by omega)
      exact ⟨e, a, by omega⟩
/-- How many lines the point is on. -/
def onN (l : List S40) (p x y : Int) : Int := (ints 0 l.length).foldl (cI l p x y) 0
theorem onN_bd (l : List S40) (p x y : Int) (h : l.length ≤ 6) : 0 ≤ onN l p x y ∧ onN l p x y ≤ l.length := by
  obtain ⟨_, a, b⟩ := c_same l p x y (ints 0 l.length) 0 (by omega) (by rw [ints_len]; omega)
  rw [ints_len] at b
  exact ⟨a, by unfold onN; omega⟩
abbrev Row (n : Nat) : Type := { o : List Int // o.length = n }
def putRow (l : List S40) (p : Int) (s : Row (l.length + 1)) (t : Int × Int) : Row (l.length + 1) :=
  ⟨s.val.set (onN l p t.1 t.2).toNat (wrap64 (rd s.val (onN l p t.1 t.2) + 1)), by rw [List.length_set]; exact s.property⟩
/-- The row that is counted. -/
def rowL (l : List S40) (p : Int) : List Int := (((ints 0 p.toNat).flatMap fun i => (ints 0 p.toNat).map fun j => (i, j)).foldl (putRow l p) ⟨List.replicate (l.length + 1) 0, by simp⟩).val
noncomputable def onRow (l : List S40) (p : Int) : List Int := if linesB l = true ∧ primeB p = true ∧ p ≤ 199 then rowL l p else []
theorem rowL_length (l : List S40) (p : Int) : (rowL l p).length = l.length + 1 := (((ints 0 p.toNat).flatMap fun i => (ints 0 p.toNat).map fun j => (i, j)).foldl (putRow l p) ⟨List.replicate (l.length + 1) 0, by simp⟩).property
theorem l1Bit_is (b : Bool) : spec_l1Bit.f b = some (if b = true then 1 else 0) := by unfold spec_l1Bit.f; cases b <;> rfl
theorem spec_row (l : List S40) (p : Int) (hl : l.length ≤ 6) (h2 : 2 ≤ p) (h199 : p ≤ 199) : Ev (fun q => spec_OnRow.l0 q l p (List.replicate (l.length + 1) 0) 0) (rowL l p) := by
  unfold rowL
  rw [← foldX_foldl (putRow l p) (Subtype.val : Row (l.length + 1) → List Int)]
  have h := gridLoop (σ := Row (l.length + 1)) (l0 := fun q s x => spec_OnRow.l0 q l p s.val x) (l1 := fun q s x y => spec_OnRow.l1 q l p s.val x y) p.toNat p.toNat (fun s t => .inl (putRow l p s t)) Subtype.val ?_ ?_ ?_ ?_ ⟨List.replicate (l.length + 1) 0, by simp⟩
  · exact h
  · intro s x y hx0 hxp hy0 hyp r hT
    have hT := stepT_inl hT rfl
    refine Ev.step (f := fun q => spec_OnRow.l2 q l p s.val x y 0 0) (fun q => by simp only [spec_OnRow.l1]; rw [if_pos (by omega)]) ?_
    obtain ⟨hb0, hb1⟩ := onN_bd l p x y hl
    have hend : Ev (fun q => spec_OnRow.l2 q l p s.val x y (onN l p x y) (l.length : Int)) r := by
      refine Ev.step (f := fun q => spec_OnRow.l1 q l p (s.val.set (onN l p x y).toNat (wrap64 (rd s.val (onN l p x y) + 1))) x (y + 1)) (fun q => ?_) hT
      have hs := s.property
      simp only [spec_OnRow.l2]
      rw [if_neg (by omega), if_pos hb0, if_pos (by omega), w64 (x := y + 1) (by omega) (by omega)]
    have hN := (c_same l p x y (ints 0 l.length) 0 (by omega) (by rw [ints_len]; omega)).1
    refine rangeLoop (σ := Int) (ρ := List Int) (l := fun q s' i => spec_OnRow.l2 q l p s.val x y s' i) (l.length : Int) (T := Com.stepT fun s' i => .inl (cS l p x y s' i)) (stepT_mono _) (C := fun s' r' => s' = onN l p x y ∧ Ev (fun q => spec_OnRow.l2 q l p s.val x y (onN l p x y) (l.length : Int)) r') 0 ?_ ?_ l.length 0 (by omega) (by omega) 0 r ((foldT_foldl _ _ _ 0 r).2 ⟨hN, hend⟩)
    · intro s' i hi0 hin r' hT
      have hT := stepT_inl hT rfl
      refine Ev.step (f := fun q => spec_OnRow.l2 q l p s.val x y (cS l p x y s' i) (i + 1)) (fun q => ?_) hT
      simp only [spec_OnRow.l2]
      rw [if_pos hin, if_pos hi0, if_neg (by omega), l1Bit_is, Option.bind_some, w64 (x := i + 1) (by omega) (by omega)]; rfl
    · rintro s' r' ⟨rfl, h⟩; exact h
  · intro s x hx0 hxp r h
    refine Ev.step (f := fun q => spec_OnRow.l0 q l p s.val (x + 1)) (fun q => ?_) h
    simp only [spec_OnRow.l1]
    rw [if_neg (by omega), w64 (by omega) (by omega)]
  · intro s x hx0 hxp r h
    exact Ev.step (fun q => by simp only [spec_OnRow.l0]; rw [if_pos (by omega)]) h
  · intro s
    exact Ev.step (f := fun _ => some s.val) (fun q => by simp only [spec_OnRow.l0]; rw [if_neg (by omega)]) (Ev.now _)
theorem spec_OnRow_ev (l : List S40) (p : Int) (hl : l.length ≤ 1099511627776) : Ev (fun k => spec_OnRow.f k l p) (onRow l p) := by
  simp only [spec_OnRow.f]
  refine Ev.bind (spec_AreLines_ev l hl) ?_
  unfold onRow
  cases hL : linesB l with
  | false =>
    simp only [Bool.false_eq_true, if_false, false_and]
    exact Ev.step (f := fun _ => some ([] : List Int)) (fun q => by simp only [spec_OnRow.j0, if_true]) (Ev.now _)
  | true =>
    simp only [if_true, true_and]
    refine Ev.bind (prime_spec p) ?_
    cases hP : primeB p with
    | false =>
      simp only [Bool.false_eq_true, if_false, false_and]
      exact Ev.step (f := fun _ => some ([] : List Int)) (fun q => by simp only [spec_OnRow.j0, if_true]) (Ev.now _)
    | true =>
      have h2 := prime_two hP
      have hn := lines_len hL
      simp only [if_true, true_and]
      by_cases h : p ≤ 199
      · rw [if_pos h]
        refine Ev.step (f := fun q => spec_OnRow.l0 q l p (List.replicate (l.length + 1) 0) 0) (fun q => ?_) (spec_row l p hn.2 h2 h)
        simp only [spec_OnRow.j0]
        rw [if_neg (by simp; omega), w64 (by omega) (by omega), if_pos (by omega), if_pos (by omega), show ((l.length : Int) + 1).toNat = l.length + 1 by omega]
      · rw [if_neg h]
        exact Ev.step (f := fun _ => some ([] : List Int)) (fun q => by simp only [spec_OnRow.j0]; rw [if_pos (by simp; omega)]) (Ev.now _)
theorem impl_row (l : List S40) (p : Int) (hl : l.length ≤ 6) (h2 : 2 ≤ p) (h199 : p ≤ 199) : Ev (fun q => impl_OnRow.l0 q l p (List.replicate (l.length + 1) 0) 0) (rowL l p) := by
  unfold rowL
  rw [← foldX_foldl (putRow l p) (Subtype.val : Row (l.length + 1) → List Int)]
  have h := gridLoop (σ := Row (l.length + 1)) (l0 := fun q s x => impl_OnRow.l0 q l p s.val x) (l1 := fun q s x y => impl_OnRow.l1 q l p s.val x y) p.toNat p.toNat (fun s t => .inl (putRow l p s t)) Subtype.val ?_ ?_ ?_ ?_ ⟨List.replicate (l.length + 1) 0, by simp⟩
  · exact h
  · intro s x y hx0 hxp hy0 hyp r hT
    have hT := stepT_inl hT rfl
    refine Ev.step (f := fun q => impl_OnRow.l2 q l p s.val x y 0 l l.length 0) (fun q => by simp only [impl_OnRow.l1]; rw [if_pos (by omega)]) ?_
    obtain ⟨hb0, hb1⟩ := onN_bd l p x y hl
    have hend : Ev (fun q => impl_OnRow.l2 q l p s.val x y (onN l p x y) l l.length (l.length : Int)) r := by
      refine Ev.step (f := fun q => impl_OnRow.l1 q l p (s.val.set (onN l p x y).toNat (wrap64 (rd s.val (onN l p x y) + 1))) x (y + 1)) (fun q => ?_) hT
      have hs := s.property
      simp only [impl_OnRow.l2]
      rw [if_neg (by omega), if_pos hb0, if_pos (by omega), w64 (x := y + 1) (by omega) (by omega)]
    have hN := (rfl : (ints 0 l.length).foldl (cI l p x y) 0 = onN l p x y)
    refine rangeLoop (σ := Int) (ρ := List Int) (l := fun q s' i => impl_OnRow.l2 q l p s.val x y s' l l.length i) (l.length : Int) (T := Com.stepT fun s' i => .inl (cI l p x y s' i)) (stepT_mono _) (C := fun s' r' => s' = onN l p x y ∧ Ev (fun q => impl_OnRow.l2 q l p s.val x y (onN l p x y) l l.length (l.length : Int)) r') 0 ?_ ?_ l.length 0 (by omega) (by omega) 0 r ((foldT_foldl _ _ _ 0 r).2 ⟨hN, hend⟩)
    · intro s' i hi0 hin r' hT
      have hT := stepT_inl hT rfl
      refine Ev.step (f := fun q => impl_OnRow.l2 q l p s.val x y (cI l p x y s' i) l l.length (i + 1)) (fun q => ?_) hT
      simp only [impl_OnRow.l2]
      rw [if_pos hin, if_pos hi0, if_pos hin, if_neg (by omega), w64 (x := i + 1) (by omega) (by omega)]
      unfold cI onB
      simp only [beq_iff_eq]
      split <;> rfl
    · rintro s' r' ⟨rfl, h⟩; exact h
  · intro s x hx0 hxp r h
    refine Ev.step (f := fun q => impl_OnRow.l0 q l p s.val (x + 1)) (fun q => ?_) h
    simp only [impl_OnRow.l1]
    rw [if_neg (by omega), w64 (by omega) (by omega)]
  · intro s x hx0 hxp r h
    exact Ev.step (fun q => by simp only [impl_OnRow.l0]; rw [if_pos (by omega)]) h
  · intro s
    exact Ev.step (f := fun _ => some s.val) (fun q => by simp only [impl_OnRow.l0]; rw [if_neg (by omega)]) (Ev.now _)
theorem impl_OnRow_ev (l : List S40) (p : Int) (hl : l.length ≤ 1099511627776) : Ev (fun k => impl_OnRow.f k l p) (onRow l p) := by
  simp only [impl_OnRow.f]
  simp only [impl_AreLines_eq, Option.bind_some]
  unfold onRow
  cases hL : linesB l with
  | false =>
    simp only [Bool.false_eq_true, if_false, false_and]
    exact Ev.step (f := fun _ => some ([] : List Int)) (fun q => by simp only [impl_OnRow.j0, if_true]) (Ev.now _)
  | true =>
    simp only [if_true, true_and]
    refine Ev.bind (prime_impl p) ?_
    cases hP : primeB p with
    | false =>
      simp only [Bool.false_eq_true, if_false, false_and]
      exact Ev.step (f := fun _ => some ([] : List Int)) (fun q => by simp only [impl_OnRow.j0, if_true]) (Ev.now _)
    | true =>
      have h2 := prime_two hP
      have hn := lines_len hL
      simp only [if_true, true_and]
      by_cases h : p ≤ 199
      · rw [if_pos h]
        refine Ev.step (f := fun q => impl_OnRow.l0 q l p (List.replicate (l.length + 1) 0) 0) (fun q => ?_) (impl_row l p hn.2 h2 h)
        simp only [impl_OnRow.j0]
        rw [if_neg (by simp; omega), w64 (by omega) (by omega), if_pos (by omega), if_pos (by omega), show ((l.length : Int) + 1).toNat = l.length + 1 by omega]
      · rw [if_neg h]
        exact Ev.step (f := fun _ => some ([] : List Int)) (fun q => by simp only [impl_OnRow.j0]; rw [if_pos (by simp; omega)]) (Ev.now _)
end Go.Proofs.Ytldcckcljjlglaa.Pure
