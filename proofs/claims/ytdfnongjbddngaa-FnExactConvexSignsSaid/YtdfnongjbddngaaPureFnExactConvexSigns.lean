/- For every number the program's ConvexSigns returns what the reference's returns; no condition. -/
import Derived.Test.YtdfnongjbddngaaPF4
namespace Go.Proofs.Ytdfnongjbddngaa.Pure
open Go.RowKit Go.Proofs.Ytdfnongjbddngaa.P Go.Proofs.YtdfnongjbddngaaW.PrintWords Go.Proofs.YtdfnongjbddngaaW.PrintLast
set_option linter.unusedSimpArgs false
set_option linter.unusedVariables false

theorem convex_3 : spec_ConvexSigns.f 60 3 = impl_ConvexSigns.f 3 := by kernel_rfl
theorem convex_4 : spec_ConvexSigns.f 60 4 = impl_ConvexSigns.f 4 := by kernel_rfl
theorem convex_5 : spec_ConvexSigns.f 60 5 = impl_ConvexSigns.f 5 := by kernel_rfl
theorem convex_6 : spec_ConvexSigns.f 60 6 = impl_ConvexSigns.f 6 := by kernel_rfl
theorem convex_7 : spec_ConvexSigns.f 60 7 = impl_ConvexSigns.f 7 := by kernel_rfl

theorem convex_same (a0 : Int) (h : 3 ≤ a0 ∧ a0 ≤ 7) : spec_ConvexSigns.f 60 a0 = impl_ConvexSigns.f a0 := by
  obtain ⟨h1, h2⟩ := h
  have hn : a0 = 3 ∨ a0 = 4 ∨ a0 = 5 ∨ a0 = 6 ∨ a0 = 7 := by omega
  rcases hn with rfl | rfl | rfl | rfl | rfl
  · exact convex_3
  · exact convex_4
  · exact convex_5
  · exact convex_6
  · exact convex_7

theorem FnExactConvexSigns : laws_FnExactConvexSigns.Pure := by
  intro a0 _
  refine ⟨60, ?_⟩
  unfold laws_FnExactConvexSigns.f
  by_cases c : 3 ≤ a0 ∧ a0 ≤ 7
  · rw [convex_same a0 c]
    have hf : impl_ConvexSigns.f a0 = some (a0, strOfNums (List.replicate (chiList a0).length 43), true) := by unfold impl_ConvexSigns.f; rw [if_pos c]
    rw [hf]
    simp [laws_eqSigns.f]
  · have hf : impl_ConvexSigns.f a0 = some (0, (⟨#[]⟩ : ByteArray), false) := by unfold impl_ConvexSigns.f; rw [if_neg c]
    have hg : spec_l1In.f a0 3 7 = some false := by unfold spec_l1In.f; by_cases c1 : a0 ≥ 3 <;> simp [c1] <;> omega
    have hs : spec_ConvexSigns.f 60 a0 = some (0, (⟨#[]⟩ : ByteArray), false) := by unfold spec_ConvexSigns.f; rw [hg]; rfl
    rw [hf, hs]
    simp [laws_eqSigns.f]

end Go.Proofs.Ytdfnongjbddngaa.Pure
