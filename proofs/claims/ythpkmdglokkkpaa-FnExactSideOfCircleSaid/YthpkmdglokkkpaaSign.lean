/- Signs and areas: the reference's words and the program's come to the same; no condition. -/
import Derived.Test.YthpkmdglokkkpaaNear
import Derived.Test.YthpkmdglokkkpaaWrap
import Derived.Test.YthpkmdglokkkpaaPF85
import Derived.Test.YthpkmdglokkkpaaPF84
import Derived.Test.YthpkmdglokkkpaaPF68
import Derived.Test.YthpkmdglokkkpaaPF67
import Derived.Test.YthpkmdglokkkpaaPF87
namespace Go.Proofs.Ythpkmdglokkkpaa.Pure
open Go.RowKit Go.Proofs.Ythpkmdglokkkpaa.P Go.Proofs.YthpkmdglokkkpaaW.PrintWords Go.Proofs.YthpkmdglokkkpaaW.PrintLast Go.Proofs.Ythpkmdglokkkpaa.Com
set_option linter.unusedSimpArgs false
set_option linter.unusedVariables false

def sgn (x : Int) : Int := if 0 < x then 1 else if x < 0 then -1 else 0
theorem l2Sign_eq (x : Int) : spec_l2Sign.f x = some (sgn x) := by
  unfold spec_l2Sign.f spec_l1Bit.f sgn
  by_cases h1 : 0 < x
  · have h2 : ¬ x < 0 := by omega
    simp [h1, h2, wrap64]
  · by_cases h2 : x < 0
    · simp [h1, h2, wrap64]
    · simp [h1, h2, wrap64]
theorem signOf_eq (x : Int) : impl_signOf.f x = some (sgn x) := by
  unfold impl_signOf.f cmp_Compare_int.f cmp_isNaN_int.f sgn
  by_cases h1 : 0 < x
  · have h2 : ¬ x < 0 := by omega
    simp [h1, h2]
  · by_cases h2 : x < 0
    · simp [h1, h2]
    · simp [h1, h2]
/-- Twice a triangle's area, as Go reckons it. -/
def areaW (a b c d e f : Int) : Int := wrap64 ((c - a) * (f - b) - (d - b) * (e - a))
theorem l2Area_eq (a b c d e f : Int) : spec_l2Area.f a b c d e f = some (areaW a b c d e f) := by
  simp only [spec_l2Area.f, areaW, ww_sub_l, ww_sub_r, ww_mul_l, ww_mul_r]
theorem area_eq (a b c d e f : Int) : impl_area.f a b c d e f = some (areaW a b c d e f) := by
  simp only [impl_area.f, areaW, ww_sub_l, ww_sub_r, ww_mul_l, ww_mul_r]
theorem TurnOf_eq (a b c d e f : Int) : impl_TurnOf.f a b c d e f = some (if ((inB a 1000 && inB b 1000) && ((inB c 1000 && inB d 1000) && (inB e 1000 && inB f 1000))) = true then sgn (areaW a b c d e f) else 0) := by
  unfold impl_TurnOf.f
  rw [areNear_eq 1000 _ (by omega) (by omega), area_eq]
  simp only [Option.bind_some, signOf_eq, List.all_cons, List.all_nil, Bool.and_true]
  split <;> rfl
end Go.Proofs.Ythpkmdglokkkpaa.Pure
