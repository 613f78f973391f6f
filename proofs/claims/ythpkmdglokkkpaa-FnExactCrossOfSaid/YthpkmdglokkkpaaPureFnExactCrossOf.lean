/- For all triples a and b the program's CrossOf(a, b) returns what the reference's returns; no condition. -/
import Derived.Test.YthpkmdglokkkpaaCrossOf
import Derived.Test.YthpkmdglokkkpaaPF12
namespace Go.Proofs.Ythpkmdglokkkpaa.Pure
open Go.RowKit Go.Proofs.Ythpkmdglokkkpaa.P Go.Proofs.YthpkmdglokkkpaaW.PrintWords Go.Proofs.YthpkmdglokkkpaaW.PrintLast Go.Proofs.Ythpkmdglokkkpaa.Com
set_option linter.unusedSimpArgs false
set_option linter.unusedVariables false

theorem FnExactCrossOf : laws_FnExactCrossOf.Pure := by
  intro x y _ _
  apply Ev.rounds
  simp only [laws_FnExactCrossOf.f, laws_toTriple.f, Option.bind_some]
  refine Ev.bind (crossT_spec _ _ _ _ _ _) (Ev.bind (crossT_impl _ _ _ _ _ _) ?_)
  simp only [laws_eqTriple.f, if_true, Option.bind_some]
  exact Ev.now true
end Go.Proofs.Ythpkmdglokkkpaa.Pure
