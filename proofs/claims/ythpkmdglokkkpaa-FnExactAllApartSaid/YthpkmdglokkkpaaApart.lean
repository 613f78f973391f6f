/- For all numbers a and b both AreApart functions come to one answer; no condition. -/
import Derived.Test.YthpkmdglokkkpaaPF27
import Derived.Test.YthpkmdglokkkpaaPF26
namespace Go.Proofs.Ythpkmdglokkkpaa.Pure
open Go.RowKit Go.Proofs.Ythpkmdglokkkpaa.P Go.Proofs.YthpkmdglokkkpaaW.PrintWords Go.Proofs.YthpkmdglokkkpaaW.PrintLast

set_option maxRecDepth 100000 in
theorem apart_small : ∀ a : Fin 64, ∀ b : Fin 64, (match spec_AreApart.f 100 (a.val : Int) (b.val : Int), impl_AreApart.f 100 (a.val : Int) (b.val : Int) with | some x, some y => x == y | _, _ => false) = true := by decide +kernel

theorem apart_far {a b : Int} (h : ¬ (0 ≤ a ∧ a ≤ 63 ∧ 0 ≤ b ∧ b ≤ 63)) : spec_AreApart.f 100 a b = some false ∧ impl_AreApart.f 100 a b = some false := by
  by_cases ha0 : 0 ≤ a
  · by_cases ha : a ≤ 63
    · by_cases hb0 : 0 ≤ b
      · have hb : ¬ b ≤ 63 := by omega
        constructor
        · simp [spec_AreApart.f, spec_l1In.f, ha0, ha, hb0, hb]
        · simp [impl_AreApart.f, impl_isCellSet.f, ha0, ha, hb0, hb]
      · constructor
        · simp [spec_AreApart.f, spec_l1In.f, ha0, ha, hb0]
        · simp [impl_AreApart.f, impl_isCellSet.f, ha0, ha, hb0]
    · constructor
      · simp [spec_AreApart.f, spec_l1In.f, ha0, ha]
      · simp [impl_AreApart.f, impl_isCellSet.f, ha0, ha]
  · constructor
    · simp [spec_AreApart.f, spec_l1In.f, ha0]
    · simp [impl_AreApart.f, impl_isCellSet.f, ha0]

/-- Both come to one answer, at 100 rounds. -/
theorem apart_both (a b : Int) : ∃ r, spec_AreApart.f 100 a b = some r ∧ impl_AreApart.f 100 a b = some r := by
  by_cases h : 0 ≤ a ∧ a ≤ 63 ∧ 0 ≤ b ∧ b ≤ 63
  · have z := apart_small ⟨a.toNat, by omega⟩ ⟨b.toNat, by omega⟩
    simp only [Int.toNat_of_nonneg h.1, Int.toNat_of_nonneg h.2.2.1] at z
    revert z
    cases hs : spec_AreApart.f 100 a b with
    | none => intro z; simp at z
    | some x =>
      cases hi : impl_AreApart.f 100 a b with
      | none => intro z; simp at z
      | some y =>
        intro z
        have e : x = y := by simpa using z
        subst e
        exact ⟨x, rfl, rfl⟩
  · obtain ⟨h1, h2⟩ := apart_far h
    exact ⟨false, h1, h2⟩

/-- The answer. -/
noncomputable def apart (a b : Int) : Bool := Classical.choose (apart_both a b)
theorem apart_spec {k : Nat} (hk : 100 ≤ k) (a b : Int) : spec_AreApart.f k a b = some (apart a b) := at_rounds (spec_AreApart.mono a b) hk (Classical.choose_spec (apart_both a b)).1
theorem apart_impl {k : Nat} (hk : 100 ≤ k) (a b : Int) : impl_AreApart.f k a b = some (apart a b) := at_rounds (impl_AreApart.mono a b) hk (Classical.choose_spec (apart_both a b)).2

end Go.Proofs.Ythpkmdglokkkpaa.Pure
