/- For all points a and b the program's LengthOf(a, b) returns what the reference's returns; no condition. -/
import Derived.Test.YthpkmdglokkkpaaNear
import Derived.Test.YthpkmdglokkkpaaPF5
namespace Go.Proofs.Ythpkmdglokkkpaa.Pure
open Go.RowKit Go.Proofs.Ythpkmdglokkkpaa.P Go.Proofs.YthpkmdglokkkpaaW.PrintWords Go.Proofs.YthpkmdglokkkpaaW.PrintLast Go.Proofs.Ythpkmdglokkkpaa.Com
set_option linter.unusedSimpArgs false
set_option linter.unusedVariables false

theorem LengthOf_same (a b c d : Int) : impl_LengthOf.f a b c d = spec_LengthOf.f a b c d := by
  unfold impl_LengthOf.f spec_LengthOf.f
  rw [areNear_eq 1000 _ (by omega) (by omega), l2Fits_eq a b 1000 (by omega) (by omega), l2Fits_eq c d 1000 (by omega) (by omega)]
  simp only [Option.bind_some, impl_length.f, List.all_cons, List.all_nil, Bool.and_true]
  cases (inB a 1000 && inB b 1000) <;> cases (inB c 1000 && inB d 1000) <;> simp
theorem LengthOf_some (a b c d : Int) : ∃ r, spec_LengthOf.f a b c d = some r := by
  unfold spec_LengthOf.f
  rw [l2Fits_eq a b 1000 (by omega) (by omega), l2Fits_eq c d 1000 (by omega) (by omega)]
  simp only [Option.bind_some]
  cases (inB a 1000 && inB b 1000) <;> cases (inB c 1000 && inB d 1000) <;> simp
theorem FnExactLengthOf : laws_FnExactLengthOf.Pure := by
  intro x y _ _
  obtain ⟨r, hr⟩ := LengthOf_some x.f0 x.f1 y.f0 y.f1
  simp [laws_FnExactLengthOf.f, laws_toPoint.f, LengthOf_same, hr]
end Go.Proofs.Ythpkmdglokkkpaa.Pure
