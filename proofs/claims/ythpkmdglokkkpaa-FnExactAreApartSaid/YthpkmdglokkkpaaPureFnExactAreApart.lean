/- For all numbers a and b the program's AreApart(a, b) returns what the reference's returns; no condition. -/
import Derived.Test.YthpkmdglokkkpaaApart
import Derived.Test.YthpkmdglokkkpaaP3
namespace Go.Proofs.Ythpkmdglokkkpaa.Pure
open Go.RowKit Go.Proofs.Ythpkmdglokkkpaa.P Go.Proofs.YthpkmdglokkkpaaW.PrintWords Go.Proofs.YthpkmdglokkkpaaW.PrintLast

theorem FnExactAreApart : laws_FnExactAreApart.Pure := by
  intro a b _ _
  refine ⟨100, ?_⟩
  unfold laws_FnExactAreApart.f
  rw [apart_spec (Nat.le_refl _), apart_impl (Nat.le_refl _)]
  simp

end Go.Proofs.Ythpkmdglokkkpaa.Pure
