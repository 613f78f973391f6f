/- For every point the program's TripleOf returns what the reference's returns; no condition. -/
import Derived.Test.YthpkmdglokkkpaaPF3
namespace Go.Proofs.Ythpkmdglokkkpaa.Pure
open Go.RowKit Go.Proofs.Ythpkmdglokkkpaa.P Go.Proofs.YthpkmdglokkkpaaW.PrintWords Go.Proofs.YthpkmdglokkkpaaW.PrintLast

theorem FnExactTripleOf : laws_FnExactTripleOf.Pure := by
  intro x _
  simp [laws_FnExactTripleOf.f, spec_TripleOf.f, impl_TripleOf.f, laws_toPoint.f, laws_eqTriple.f]

end Go.Proofs.Ythpkmdglokkkpaa.Pure
