/- For all points the program's SideOfCircle returns what the reference's returns; no condition. -/
import Derived.Test.YthpkmdglokkkpaaSideOfCircle
import Derived.Test.YthpkmdglokkkpaaPF13
namespace Go.Proofs.Ythpkmdglokkkpaa.Pure
open Go.RowKit Go.Proofs.Ythpkmdglokkkpaa.P Go.Proofs.YthpkmdglokkkpaaW.PrintWords Go.Proofs.YthpkmdglokkkpaaW.PrintLast Go.Proofs.Ythpkmdglokkkpaa.Com
set_option linter.unusedSimpArgs false
set_option linter.unusedVariables false

theorem FnExactSideOfCircle : laws_FnExactSideOfCircle.Pure := by
  intro x y z p _ _ _ _
  obtain ⟨r, h1, h2⟩ := side_same x.f0 x.f1 y.f0 y.f1 z.f0 z.f1 p.f0 p.f1
  simp only [laws_FnExactSideOfCircle.f, laws_toPoint.f, Option.bind_some, h1, h2, if_true]
end Go.Proofs.Ythpkmdglokkkpaa.Pure
