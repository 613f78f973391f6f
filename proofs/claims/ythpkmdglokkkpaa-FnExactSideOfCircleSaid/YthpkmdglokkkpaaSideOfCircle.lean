/- The reference's and the program's SideOfCircle come to one answer; no condition. -/
import Derived.Test.YthpkmdglokkkpaaSign
import Derived.Test.YthpkmdglokkkpaaPF44
import Derived.Test.YthpkmdglokkkpaaPF45
import Derived.Test.YthpkmdglokkkpaaPF65
namespace Go.Proofs.Ythpkmdglokkkpaa.Pure
open Go.RowKit Go.Proofs.Ythpkmdglokkkpaa.P Go.Proofs.YthpkmdglokkkpaaW.PrintWords Go.Proofs.YthpkmdglokkkpaaW.PrintLast Go.Proofs.Ythpkmdglokkkpaa.Com
set_option linter.unusedSimpArgs false
set_option linter.unusedVariables false

theorem inB_wider {x m n : Int} (h : inB x m = true) (hm : m ≤ n) : inB x n = true := by rw [inB_iff] at *; omega
theorem LengthOf_in (a b c d : Int) (ha : inB a 1000 = true) (hb : inB b 1000 = true) (hc : inB c 1000 = true) (hd : inB d 1000 = true) :
    spec_LengthOf.f a b c d = some (wrap64 ((a - c) * (a - c) + (b - d) * (b - d))) := by
  unfold spec_LengthOf.f
  rw [l2Fits_eq a b 1000 (by omega) (by omega), l2Fits_eq c d 1000 (by omega) (by omega)]
  simp [ha, hb, hc, hd, ww_add_l, ww_add_r, ww_mul_l, ww_mul_r]
/-- Points within 50: the reference's side of a circle is the program's determinant's. -/
def sideW (a b c d e f g h : Int) : Int :=
  wrap64 (sgn (wrap64 ((a - g) * ((d - h) * ((e - g) * (e - g) + (f - h) * (f - h)) - ((c - g) * (c - g) + (d - h) * (d - h)) * (f - h)) - (b - h) * ((c - g) * ((e - g) * (e - g) + (f - h) * (f - h)) - ((c - g) * (c - g) + (d - h) * (d - h)) * (e - g)) + ((a - g) * (a - g) + (b - h) * (b - h)) * ((c - g) * (f - h) - (d - h) * (e - g)))) * sgn (areaW a b c d e f))
theorem side_spec (a b c d e f g h : Int) (ha : inB a 50 = true) (hb : inB b 50 = true) (hc : inB c 50 = true) (hd : inB d 50 = true) (he : inB e 50 = true) (hf : inB f 50 = true) (hg : inB g 50 = true) (hh : inB h 50 = true) :
    spec_l29Side.f a b c d e f g h = some (sideW a b c d e f g h) := by
  have w : ∀ {x : Int}, inB x 50 = true → inB x 1000 = true := fun h => inB_wider h (by omega)
  unfold spec_l29Side.f
  rw [LengthOf_in a b g h (w ha) (w hb) (w hg) (w hh), LengthOf_in c d g h (w hc) (w hd) (w hg) (w hh), LengthOf_in e f g h (w he) (w hf) (w hg) (w hh)]
  simp only [Option.bind_some, l2Area_eq, l2Sign_eq, sideW]
  congr 4
  simp only [areaW, ww_add_l, ww_add_r, ww_mul_l, ww_mul_r]
  congr 1
  grind
theorem side_impl (a b c d e f g h : Int) (ha : inB a 50 = true) (hb : inB b 50 = true) (hc : inB c 50 = true) (hd : inB d 50 = true) (he : inB e 50 = true) (hf : inB f 50 = true) (hg : inB g 50 = true) (hh : inB h 50 = true) :
    impl_SideOfCircle.f a b c d e f g h = some (sideW a b c d e f g h) := by
  have w : ∀ {x : Int}, inB x 50 = true → inB x 1000 = true := fun h => inB_wider h (by omega)
  unfold impl_SideOfCircle.f
  rw [areNear_eq 50 _ (by omega) (by omega), TurnOf_eq]
  simp only [List.all_cons, List.all_nil, Bool.and_true, ha, hb, hc, hd, he, hf, hg, hh, w ha, w hb, w hc, w hd, w he, w hf, Bool.and_self, if_true, Option.bind_some, impl_lift.f, signOf_eq, sideW]
  congr 4
  simp only [ww_add_l, ww_add_r, ww_sub_l, ww_sub_r, ww_mul_l, ww_mul_r]
theorem side_same (a b c d e f g h : Int) : ∃ r, spec_SideOfCircle.f a b c d e f g h = some r ∧ impl_SideOfCircle.f a b c d e f g h = some r := by
  by_cases hin : (inB a 50 = true ∧ inB b 50 = true) ∧ (inB c 50 = true ∧ inB d 50 = true) ∧ (inB e 50 = true ∧ inB f 50 = true) ∧ (inB g 50 = true ∧ inB h 50 = true)
  · obtain ⟨⟨ha, hb⟩, ⟨hc, hd⟩, ⟨he, hf⟩, hg, hh⟩ := hin
    refine ⟨_, ?_, side_impl a b c d e f g h ha hb hc hd he hf hg hh⟩
    unfold spec_SideOfCircle.f
    simp only [l2Fits_eq _ _ 50 (show (0 : Int) ≤ 50 by omega) (by omega), ha, hb, hc, hd, he, hf, hg, hh, Bool.and_self, Option.bind_some, if_true, side_spec a b c d e f g h ha hb hc hd he hf hg hh]
  · refine ⟨0, ?_, ?_⟩
    · unfold spec_SideOfCircle.f
      simp only [l2Fits_eq _ _ 50 (show (0 : Int) ≤ 50 by omega) (by omega), Option.bind_some]
      by_cases h1 : (inB a 50 && inB b 50) = true
      · by_cases h2 : (inB c 50 && inB d 50) = true
        · by_cases h3 : (inB e 50 && inB f 50) = true
          · have h4 : ¬ (inB g 50 && inB h 50) = true := fun h4 => hin (by simp only [Bool.and_eq_true] at h1 h2 h3 h4; exact ⟨h1, h2, h3, h4⟩)
            rw [if_pos h1, if_pos h2, if_pos h3, if_neg h4]
          · rw [if_pos h1, if_pos h2, if_neg h3]
        · rw [if_pos h1, if_neg h2]
      · rw [if_neg h1]
    · unfold impl_SideOfCircle.f
      rw [areNear_eq 50 _ (by omega) (by omega)]
      simp only [List.all_cons, List.all_nil, Bool.and_true, Option.bind_some]
      rw [if_neg (fun h => hin (by simpa [and_assoc] using h))]
end Go.Proofs.Ythpkmdglokkkpaa.Pure
