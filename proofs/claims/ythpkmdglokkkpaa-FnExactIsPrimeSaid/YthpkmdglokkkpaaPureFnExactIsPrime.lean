/- For every number p the program's IsPrime(p) returns what the reference's returns; no condition. -/
import Derived.Test.YthpkmdglokkkpaaPFnExactIsPrimex1
namespace Go.Proofs.Ythpkmdglokkkpaa.Pure
open Go.RowKit Go.Proofs.Ythpkmdglokkkpaa.PFnExactIsPrime Go.Proofs.YthpkmdglokkkpaaW.PrintWords Go.Proofs.YthpkmdglokkkpaaW.PrintLast

theorem small : ∀ n : Fin 998, 2 ≤ n.val → laws_FnExactIsPrime.f 60 (n.val : Int) = some true := by decide +kernel

theorem FnExactIsPrime : laws_FnExactIsPrime.Pure := by
  intro p _
  refine ⟨60, ?_⟩
  by_cases h1 : p < 2
  · have e1 : spec_IsPrime.f 60 p = some false := by
      unfold spec_IsPrime.f spec_l1In.f
      rw [if_neg (by omega)]; rfl
    have e2 : impl_IsPrime.f 60 p = some false := by
      unfold impl_IsPrime.f
      rw [if_pos h1]; simp [impl_IsPrime.j0]
    unfold laws_FnExactIsPrime.f
    rw [e1, e2]; rfl
  by_cases h2 : p ≤ 997
  · have h := small ⟨p.toNat, by omega⟩ (by simp only; omega)
    simp only [Int.toNat_of_nonneg (show 0 ≤ p by omega)] at h
    exact h
  · have e1 : spec_IsPrime.f 60 p = some false := by
      unfold spec_IsPrime.f spec_l1In.f
      rw [if_pos (by omega), decide_eq_false h2]; rfl
    have e2 : impl_IsPrime.f 60 p = some false := by
      unfold impl_IsPrime.f
      rw [if_neg h1, decide_eq_true (show p > 997 by omega)]; simp [impl_IsPrime.j0]
    unfold laws_FnExactIsPrime.f
    rw [e1, e2]; rfl

end Go.Proofs.Ythpkmdglokkkpaa.Pure
