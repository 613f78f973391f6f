/- For all triples the program's AreOnOne returns what the reference's returns; no condition. -/
import Derived.Test.YthpkmdglokkkpaaLim
import Derived.Test.YthpkmdglokkkpaaPF6
namespace Go.Proofs.Ythpkmdglokkkpaa.Pure
open Go.RowKit Go.Proofs.Ythpkmdglokkkpaa.P Go.Proofs.YthpkmdglokkkpaaW.PrintWords Go.Proofs.YthpkmdglokkkpaaW.PrintLast Go.Proofs.Ythpkmdglokkkpaa.Com
set_option linter.unusedSimpArgs false
set_option linter.unusedVariables false

theorem FnExactAreOnOne : laws_FnExactAreOnOne.Pure := by
  intro x y z _ _ _
  simp only [laws_FnExactAreOnOne.f, laws_toTriple.f, Option.bind_some]
  unfold impl_AreOnOne.f spec_AreOnOne.f
  rw [isLimited_eq 100000 _ (by omega) (by omega), l26Fits_eq _ _ _ 100000 (by omega) (by omega), l26Fits_eq _ _ _ 100000 (by omega) (by omega), l26Fits_eq _ _ _ 100000 (by omega) (by omega)]
  simp only [Option.bind_some, List.all_cons, List.all_nil, Bool.and_true]
  cases (inB x.f0 100000 && (inB x.f1 100000 && inB x.f2 100000)) <;> cases (inB y.f0 100000 && (inB y.f1 100000 && inB y.f2 100000)) <;> cases (inB z.f0 100000 && (inB z.f1 100000 && inB z.f2 100000)) <;> simp
end Go.Proofs.Ythpkmdglokkkpaa.Pure
