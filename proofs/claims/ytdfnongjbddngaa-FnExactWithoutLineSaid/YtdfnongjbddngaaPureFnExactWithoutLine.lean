/- For every list of lines and every number the program's WithoutLine returns what the reference's returns, a new list, and leaves the list as it was; no condition. -/
import Derived.Test.YtdfnongjbddngaaSzLine
import Derived.Test.YtdfnongjbddngaaWithoutLine
import Derived.Test.YtdfnongjbddngaaMarkLine
import Derived.Test.YtdfnongjbddngaaPF3
namespace Go.Proofs.Ytdfnongjbddngaa.Pure
open Go.RowKit Go.Proofs.Ytdfnongjbddngaa.P Go.Proofs.YtdfnongjbddngaaW.PrintWords Go.Proofs.YtdfnongjbddngaaW.PrintLast Go.Proofs.Ytdfnongjbddngaa.Com
set_option linter.unusedSimpArgs false
set_option linter.unusedVariables false

theorem FnExactWithoutLine : laws_FnExactWithoutLine.Pure := by
  rintro x p ⟨hm, _⟩ hp
  have hp2 : -9223372036854775808 ≤ p ∧ p ≤ 9223372036854775807 := by simpa [Lit.wf, IntKind.signed, IntKind.bits, IntKind.min, IntKind.max] using hp
  apply Ev.rounds
  simp only [laws_FnExactWithoutLine.f, szLineS_eq x hm, Option.bind_some]
  by_cases h : x.length ≤ 1048576
  · rw [if_pos h]
    refine Ev.iteF (by omega) ?_
    have hl : (x.map convLine).length ≤ 1048576 := by simpa using h
    obtain ⟨⟨r, b⟩, h1, h2, hr⟩ : ∃ r, Ev (fun k => spec_WithoutLine.f k (x.map convLine) p) r ∧ Ev (fun k => impl_WithoutLine.f k (x.map convLine) p) r ∧ r.1.length ≤ 6 := ⟨_, spec_Without_ev _ p hp2 (by omega), impl_Without_ev _ p hp2 (by omega), withoutL_length _ p⟩
    simp only at hr
    have hbb : (b != b) = false := bne_self_eq_false b
    refine Ev.bind (toLineS_eq x h) (Ev.bind h1 (Ev.bind (toLineS_eq x h) (Ev.bind h2 (Ev.bind (eqLineS_refl r (by omega)) (Ev.iteT rfl ?_)))))
    rw [hbb]
    refine Ev.step (fun q => by simp only [laws_FnExactWithoutLine.j0, Bool.false_eq_true, if_false]; rfl) ?_
    refine Ev.bind (toLineS_eq x h) (Ev.bind (eqLineS_refl _ (by omega)) (Ev.iteT rfl (Ev.bind (markLine_eq _ (by omega)) (Ev.iteF (by simp only []; omega) (Ev.bind (eqLineS_refl r (by omega)) (Ev.iteT rfl ?_))))))
    rw [hbb]
    refine Ev.step (fun q => by simp only [laws_FnExactWithoutLine.j1, Bool.false_eq_true, if_false]; rfl) ?_
    refine Ev.bind (markLine_eq r (by omega)) (Ev.bind (heldLine_eq r.length (by omega)) (Ev.iteF (by omega) (Ev.iteT rfl (Ev.bind (toLineS_eq x h) (Ev.bind h2 (Ev.bind (eqLineS_refl r (by omega)) (Ev.iteT rfl ?_)))))))
    rw [hbb]
    refine Ev.step (fun q => by simp only [laws_FnExactWithoutLine.j2, Bool.false_eq_true, if_false]; rfl) ?_
    exact Ev.bind (heldLine_eq r.length (by omega)) (Ev.iteF (by omega) (Ev.iteT rfl (Ev.now true)))
  · rw [if_neg h]
    exact Ev.iteT (by omega) (Ev.now true)
end Go.Proofs.Ytdfnongjbddngaa.Pure
