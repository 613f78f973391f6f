/- For every line the program's LineText returns what the reference's returns; no condition. -/
import Derived.Test.YtdfnongjbddngaaDoorNumbers
import Derived.Test.YtdfnongjbddngaaDoorPF4
namespace Go.Proofs.YtdfnongjbddngaaDoor.Pure
open Go.RowKit Go.Proofs.YtdfnongjbddngaaDoor.P Go.Proofs.YtdfnongjbddngaaDoorW.PrintWords Go.Proofs.YtdfnongjbddngaaDoorW.PrintLast Go.Proofs.YtdfnongjbddngaaDoor.Com
set_option linter.unusedSimpArgs false
set_option linter.unusedVariables false

theorem FnExactLineText : laws_FnExactLineText.Pure := by
  rintro ⟨a, b, c⟩ ⟨h0, h1, h2⟩
  have h : ∀ n ∈ ([a, b, c] : List Int), I64 n := by
    intro n hn
    simp only [List.mem_cons, List.not_mem_nil, or_false] at hn
    rcases hn with rfl | rfl | rfl
    · exact i64_of_wf h0
    · exact i64_of_wf h1
    · exact i64_of_wf h2
  refine ⟨100, ?_⟩
  have e1 : spec_LineText.f 100 a b c = some (commaJoin [a, b, c]) := by unfold spec_LineText.f; rw [snum_eq _ h (by simp) 100 (by simp)]; rfl
  have e2 : impl_LineText.f 100 a b c = some (numText [a, b, c]) := by unfold impl_LineText.f; rw [inumText_eq _ h (by simp) 100 (by simp)]; rfl
  have e3 : numText [a, b, c] = commaJoin [a, b, c] := by unfold numText; rw [if_neg (by simp)]
  simp only [laws_FnExactLineText.f, laws_toLine.f, Option.bind_some, e1, e2, e3, if_true]
end Go.Proofs.YtdfnongjbddngaaDoor.Pure
