/- For all points a and b the program's OnEdge(a, b) returns what the reference's returns; no condition. -/
import Derived.Test.YthpkmdglokkkpaaOnEdge
import Derived.Test.YthpkmdglokkkpaaPF8
namespace Go.Proofs.Ythpkmdglokkkpaa.Pure
open Go.RowKit Go.Proofs.Ythpkmdglokkkpaa.P Go.Proofs.YthpkmdglokkkpaaW.PrintWords Go.Proofs.YthpkmdglokkkpaaW.PrintLast Go.Proofs.Ythpkmdglokkkpaa.Com
set_option linter.unusedSimpArgs false
set_option linter.unusedVariables false

theorem FnExactOnEdge : laws_FnExactOnEdge.Pure := by
  intro x y _ _
  apply Ev.rounds
  simp only [laws_FnExactOnEdge.f, laws_toPoint.f, Option.bind_some]
  refine Ev.bind (onEdge_spec _ _ _ _) (Ev.bind (onEdge_impl _ _ _ _) ?_)
  simp only [if_true]
  exact Ev.now true
end Go.Proofs.Ythpkmdglokkkpaa.Pure
