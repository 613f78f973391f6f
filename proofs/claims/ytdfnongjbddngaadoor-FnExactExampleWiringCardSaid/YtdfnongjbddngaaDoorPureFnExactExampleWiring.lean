/- For every number the program's ExampleWiring returns what the reference's returns; no condition. -/
import Derived.Test.YtdfnongjbddngaaDoorPF7
namespace Go.Proofs.YtdfnongjbddngaaDoor.Pure
open Go.RowKit Go.Proofs.YtdfnongjbddngaaDoor.P Go.Proofs.YtdfnongjbddngaaDoorW.PrintWords Go.Proofs.YtdfnongjbddngaaDoorW.PrintLast
set_option linter.unusedSimpArgs false
set_option linter.unusedVariables false

set_option maxRecDepth 100000 in
theorem wiring_1 : laws_FnExactExampleWiring.f 100 1 = some true := by kernel_rfl
set_option maxRecDepth 100000 in
theorem wiring_2 : laws_FnExactExampleWiring.f 100 2 = some true := by kernel_rfl
set_option maxRecDepth 100000 in
theorem wiring_3 : laws_FnExactExampleWiring.f 100 3 = some true := by kernel_rfl
set_option maxRecDepth 100000 in
theorem wiring_4 : laws_FnExactExampleWiring.f 100 4 = some true := by kernel_rfl
set_option maxRecDepth 100000 in
theorem wiring_5 : laws_FnExactExampleWiring.f 100 5 = some true := by kernel_rfl

theorem no_text : spec_ParseWiring.f 100 (⟨#[]⟩ : ByteArray) = some (0, [], false) := by kernel_rfl
theorem no_eq : laws_eqIntS.f 100 [] [] = some true := by kernel_rfl
theorem no_mark : laws_markIntS.f 99 [] 1 = some (1, []) := by kernel_rfl
theorem no_held : laws_heldIntS.f 99 [] 1 = some 1 := by kernel_rfl
theorem no_eq1 : laws_eqIntS.f 99 [] [] = some true := by kernel_rfl
theorem no_held1 : laws_heldIntS.f 98 [] 1 = some 1 := by kernel_rfl

theorem FnExactExampleWiring : laws_FnExactExampleWiring.Pure := by
  intro a0 _
  refine ⟨100, ?_⟩
  by_cases c : 1 ≤ a0 ∧ a0 ≤ 5
  · obtain ⟨h1, h2⟩ := c
    have hn : a0 = 1 ∨ a0 = 2 ∨ a0 = 3 ∨ a0 = 4 ∨ a0 = 5 := by omega
    rcases hn with rfl | rfl | rfl | rfl | rfl
    · exact wiring_1
    · exact wiring_2
    · exact wiring_3
    · exact wiring_4
    · exact wiring_5
  · have hi : ∀ k, impl_ExampleWiring.f k a0 = some (0, [], false) := by
      intro k
      unfold impl_ExampleWiring.f
      by_cases h1 : a0 < 1
      · rw [if_pos h1]
      · rw [if_neg h1, if_pos (show a0 > 5 by omega)]
    have hs : spec_ExampleWiring.f 100 a0 = some (0, [], false) := by
      unfold spec_ExampleWiring.f
      rw [if_neg (by omega), if_neg (by omega), if_neg (by omega), if_neg (by omega), if_neg (by omega), no_text]
      rfl
    unfold laws_FnExactExampleWiring.f
    simp only [hi, hs, Option.bind_some, no_eq, if_true, laws_FnExactExampleWiring.j0, laws_FnExactExampleWiring.j1, no_mark, no_held, no_eq1, no_held1, bne_self_eq_false, Bool.false_eq_true, if_false]
    decide
end Go.Proofs.YtdfnongjbddngaaDoor.Pure
