/- The reference's and the program's CrossOf come to one answer; no condition. -/
import Derived.Test.YthpkmdglokkkpaaLim
import Derived.Test.YthpkmdglokkkpaaDivisor
import Derived.Test.YthpkmdglokkkpaaWrap
import Derived.Test.YthpkmdglokkkpaaPF42
import Derived.Test.YthpkmdglokkkpaaPF43
namespace Go.Proofs.Ythpkmdglokkkpaa.Pure
open Go.RowKit Go.Proofs.Ythpkmdglokkkpaa.P Go.Proofs.YthpkmdglokkkpaaW.PrintWords Go.Proofs.YthpkmdglokkkpaaW.PrintLast Go.Proofs.Ythpkmdglokkkpaa.Com
set_option linter.unusedSimpArgs false
set_option linter.unusedVariables false

def fits3 (a b c : Int) (m : Int) : Bool := inB a m && (inB b m && inB c m)
theorem fits3_def (a b c m : Int) : (inB a m && (inB b m && inB c m)) = fits3 a b c m := rfl
theorem fits3_iff {a b c m : Int} : fits3 a b c m = true ↔ (-m ≤ a ∧ a ≤ m) ∧ (-m ≤ b ∧ b ≤ m) ∧ (-m ≤ c ∧ c ≤ m) := by simp [fits3, inB_iff]
/-- The cross product, divided by its divisor. -/
def crossD (x y z : Int) : Int × Int × Int :=
  if (Int.gcd (Int.gcd x y) z : Int) = 0 then (0, 0, 0) else (wrap64 (Int.tdiv x (Int.gcd (Int.gcd x y) z)), wrap64 (Int.tdiv y (Int.gcd (Int.gcd x y) z)), wrap64 (Int.tdiv z (Int.gcd (Int.gcd x y) z)))
def crossT (a b c d e f : Int) : Int × Int × Int :=
  if fits3 a b c 1000000 = true then if fits3 d e f 1000000 = true then crossD (b * f - c * e) (c * d - a * f) (a * e - b * d) else (0, 0, 0) else (0, 0, 0)
theorem det2 {a b c d : Int} (ha : -1000000 ≤ a ∧ a ≤ 1000000) (hb : -1000000 ≤ b ∧ b ≤ 1000000) (hc : -1000000 ≤ c ∧ c ≤ 1000000) (hd : -1000000 ≤ d ∧ d ≤ 1000000) :
    (a * b - c * d).natAbs ≤ 2000000000000 := by
  have h1 : (a * b).natAbs ≤ 1000000 * 1000000 := abs_mul_le (by omega) (by omega)
  have h2 : (c * d).natAbs ≤ 1000000 * 1000000 := abs_mul_le (by omega) (by omega)
  omega
theorem crossT_spec (a b c d e f : Int) : Ev (fun k => spec_CrossOf.f k a b c d e f) (crossT a b c d e f) := by
  simp only [spec_CrossOf.f, l26Fits_eq _ _ _ 1000000 (show (0 : Int) ≤ 1000000 by omega) (by omega), Option.bind_some, crossT, fits3_def]
  have stop : Ev (fun k => spec_CrossOf.j0 k true a b c d e f) (0, 0, 0) := Ev.step (f := fun _ => some (0, 0, 0)) (fun k => by simp only [spec_CrossOf.j0, if_true]) (Ev.now _)
  by_cases h1 : fits3 a b c 1000000 = true
  · simp only [if_pos h1]
    by_cases h2 : fits3 d e f 1000000 = true
    · simp only [if_pos h2, h2, Bool.not_true]
      rw [fits3_iff] at h1 h2
      obtain ⟨ha, hb, hc⟩ := h1
      obtain ⟨hd, he, hf⟩ := h2
      have b1 := det2 hb hf hc he
      have b2 := det2 hc hd ha hf
      have b3 := det2 ha he hb hd
      refine Ev.step (f := fun k => _) (fun k => by simp only [spec_CrossOf.j0, Bool.false_eq_true, if_false, ww_sub_l, ww_sub_r]; rfl) ?_
      simp only [wrap_abs _ (Nat.le_trans b1 (by omega)), wrap_abs _ (Nat.le_trans b2 (by omega)), wrap_abs _ (Nat.le_trans b3 (by omega))]
      refine Ev.bind (l24Gcd_ev _ _ (by omega) (by omega)) (Ev.bind (l24Gcd_ev _ _ (gcd_le_max _ _ (by omega) (by omega)) (by omega)) ?_)
      unfold crossD
      split <;> exact Ev.now _
    · simp only [if_neg h2, Bool.not_eq_true _ ▸ h2, Bool.not_false]
      exact stop
  · simp only [if_neg h1]; exact stop
theorem crossT_impl (a b c d e f : Int) : Ev (fun k => impl_CrossOf.f k a b c d e f) (crossT a b c d e f) := by
  simp only [impl_CrossOf.f, isLimited_eq 1000000 _ (show (0 : Int) ≤ 1000000 by omega) (by omega), Option.bind_some, crossT, List.all_cons, List.all_nil, Bool.and_true, fits3_def]
  by_cases h1 : fits3 a b c 1000000 = true
  · by_cases h2 : fits3 d e f 1000000 = true
    · simp only [h1, h2, Bool.and_self, if_true, ww_sub_l, ww_sub_r]
      rw [fits3_iff] at h1 h2
      obtain ⟨ha, hb, hc⟩ := h1
      obtain ⟨hd, he, hf⟩ := h2
      have b1 := det2 hb hf hc he
      have b2 := det2 hc hd ha hf
      have b3 := det2 ha he hb hd
      simp only [wrap_abs _ (Nat.le_trans b1 (by omega)), wrap_abs _ (Nat.le_trans b2 (by omega)), wrap_abs _ (Nat.le_trans b3 (by omega))]
      refine Ev.bind (divisor3 _ _ _ (by omega) (by omega) (by omega)) ?_
      unfold crossD
      split <;> exact Ev.now _
    · simp only [if_neg h2, Bool.not_eq_true _ ▸ h2, Bool.and_false, Bool.false_eq_true, if_false, ite_self]
      exact Ev.now _
  · simp only [if_neg h1, Bool.not_eq_true _ ▸ h1, Bool.false_and, Bool.false_eq_true, if_false]
    exact Ev.now _
end Go.Proofs.Ythpkmdglokkkpaa.Pure
