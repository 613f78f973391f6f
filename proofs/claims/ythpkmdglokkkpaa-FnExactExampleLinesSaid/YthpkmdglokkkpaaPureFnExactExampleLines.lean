/- For every number n the program's ExampleLines(n) returns the same lines and the same truth as the reference's; no condition. -/
import Derived.Test.YthpkmdglokkkpaaPFnExactExampleLinesx2
namespace Go.Proofs.Ythpkmdglokkkpaa.Pure
open Go.RowKit Go.Proofs.Ythpkmdglokkkpaa.PFnExactExampleLines Go.Proofs.YthpkmdglokkkpaaW.PrintWords Go.Proofs.YthpkmdglokkkpaaW.PrintLast

theorem FnExactExampleLines : laws_FnExactExampleLines.Pure := by
  intro n _
  refine ⟨20, ?_⟩
  by_cases h1 : n = 1
  · subst h1; decide +kernel
  by_cases h2 : n = 2
  · subst h2; decide +kernel
  by_cases h3 : n = 3
  · subst h3; decide +kernel
  have e1 : impl_ExampleLines.f n = some ([], false) := by
    unfold impl_ExampleLines.f; rw [if_neg h1, if_neg h2, if_neg h3]
  have e2 : spec_ExampleLines.f n = some ([], false) := by
    unfold spec_ExampleLines.f; rw [if_neg h1, if_neg h2, if_neg h3]
  have e3 : laws_eqLineS.f 20 [] [] = some true := by decide +kernel
  have e4 : laws_markLineS.f 19 [] 1 = some (1, []) := by simp [laws_markLineS.f, laws_markLineS.l0]
  have e5 : laws_heldLineS.f 19 [] 1 = some 1 := by decide +kernel
  have e6 : laws_eqLineS.f 19 [] [] = some true := by decide +kernel
  have e7 : laws_heldLineS.f 18 [] 1 = some 1 := by decide +kernel
  simp [laws_FnExactExampleLines.f, laws_FnExactExampleLines.j0, laws_FnExactExampleLines.j1, e1, e2, e3, e4, e5, e6, e7]

end Go.Proofs.Ythpkmdglokkkpaa.Pure
