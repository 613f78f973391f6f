/- Points between bounds: the reference's word and the program's come to the same; no condition but the bound's size. -/
import Derived.Test.YthpkmdglokkkpaaIn
import Derived.Test.YthpkmdglokkkpaaPF51
import Derived.Test.YthpkmdglokkkpaaPF52
import Derived.Test.YthpkmdglokkkpaaPF77
namespace Go.Proofs.Ythpkmdglokkkpaa.Pure
open Go.RowKit Go.Proofs.Ythpkmdglokkkpaa.P Go.Proofs.YthpkmdglokkkpaaW.PrintWords Go.Proofs.YthpkmdglokkkpaaW.PrintLast Go.Proofs.Ythpkmdglokkkpaa.Com
set_option linter.unusedSimpArgs false
set_option linter.unusedVariables false

theorem farB_eq (n m : Int) (h0 : 0 ≤ m) (h1 : m ≤ 4611686018427387904) : farB n m = !inB n m := by
  unfold farB impl_isFar.f inB
  rw [w64 (by omega) (by omega)]
  by_cases h : n < -m
  · rw [if_pos h, Option.getD_some, Bool.eq_iff_iff]; simp; omega
  · rw [if_neg h, Option.getD_some, Bool.eq_iff_iff]; simp; omega
theorem l2Fits_eq (x y m : Int) (h0 : 0 ≤ m) (h1 : m ≤ 4611686018427387904) : spec_l2Fits.f x y m = some (inB x m && inB y m) := by
  unfold spec_l2Fits.f
  rw [l1In_inB x m h0 h1, l1In_inB y m h0 h1]
  simp only [Option.bind_some]
  cases inB x m <;> simp
theorem areNear_eq (m : Int) (l : List S27) (h0 : 0 ≤ m) (h1 : m ≤ 4611686018427387904) : impl_areNear.f m l = some (l.all fun p => inB p.f0 m && inB p.f1 m) := by
  unfold impl_areNear.f outPoint
  congr 1
  rw [List.not_any_eq_all_not]
  congr 1
  funext p
  rw [farB_eq _ _ h0 h1, farB_eq _ _ h0 h1]
  simp
end Go.Proofs.Ythpkmdglokkkpaa.Pure
