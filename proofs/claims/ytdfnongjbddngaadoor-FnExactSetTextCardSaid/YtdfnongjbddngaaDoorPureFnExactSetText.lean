/- For every number the program's SetText returns what the reference's returns; no condition. -/
import Derived.Test.YtdfnongjbddngaaDoorPF3
namespace Go.Proofs.YtdfnongjbddngaaDoor.Pure
open Go.RowKit Go.Proofs.YtdfnongjbddngaaDoor.P Go.Proofs.YtdfnongjbddngaaDoorW.PrintWords Go.Proofs.YtdfnongjbddngaaDoorW.PrintLast

set_option maxRecDepth 100000 in
theorem setText_small : ∀ a : Fin 64, laws_FnExactSetText.f 200 (a.val : Int) = some true := by decide +kernel
theorem FnExactSetText : laws_FnExactSetText.Pure := by
  intro a _
  by_cases h0 : 0 ≤ a
  · by_cases h1 : a ≤ 63
    · have z := setText_small ⟨a.toNat, by omega⟩
      simp only [Int.toNat_of_nonneg h0] at z
      exact ⟨200, z⟩
    · exact ⟨1, by simp [laws_FnExactSetText.f, spec_SetText.f, impl_SetText.f, spec_l1In.f, impl_isCellSet.f, h0, h1]⟩
  · exact ⟨1, by simp [laws_FnExactSetText.f, spec_SetText.f, impl_SetText.f, spec_l1In.f, impl_isCellSet.f, h0]⟩
end Go.Proofs.YtdfnongjbddngaaDoor.Pure
