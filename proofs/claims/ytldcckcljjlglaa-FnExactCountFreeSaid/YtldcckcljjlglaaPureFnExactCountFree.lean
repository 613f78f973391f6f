/- For every list of lines and every number the program's CountFree returns what the reference's returns, and leaves the list of lines as it was; no condition. -/
import Derived.Test.YtldcckcljjlglaaSzLine
import Derived.Test.YtldcckcljjlglaaOnRow
import Derived.Test.YtldcckcljjlglaaPF3
import Derived.Test.YtldcckcljjlglaaPF16
import Derived.Test.YtldcckcljjlglaaPF18
namespace Go.Proofs.Ytldcckcljjlglaa.Pure
open Go.RowKit Go.Proofs.Ytldcckcljjlglaa.P Go.Proofs.YtldcckcljjlglaaW.PrintWords Go.Proofs.YtldcckcljjlglaaW.PrintLast Go.Proofs.Ytldcckcljjlglaa.Com
set_option linter.unusedSimpArgs false
set_option linter.unusedVariables false

theorem free_both (l : List S40) (p : Int) (hl : l.length ≤ 1099511627776) : ∃ r, Ev (fun k => spec_CountFree.f k l p) r ∧ Ev (fun k => impl_CountFree.f k l p) r := by
  have h1 := spec_OnRow_ev l p hl
  have h2 := impl_OnRow_ev l p hl
  simp only [spec_CountFree.f, impl_CountFree.f]
  cases hr : onRow l p with
  | nil =>
    rw [hr] at h1 h2
    exact ⟨-1, Ev.bind h1 (Ev.iteT rfl (Ev.now _)), Ev.bind h2 (Ev.now _)⟩
  | cons x xs =>
    rw [hr] at h1 h2
    refine ⟨x, Ev.bind h1 (Ev.iteF (by simp; omega) ?_), Ev.bind h2 (Ev.now _)⟩
    exact Ev.iteT (by simp) (Ev.now _)
theorem FnExactCountFree : laws_FnExactCountFree.Pure := by
  rintro x p ⟨hm, _⟩ _
  apply Ev.rounds
  simp only [laws_FnExactCountFree.f, szLineS_eq x hm, Option.bind_some]
  by_cases h : x.length ≤ 1048576
  · rw [if_pos h]
    refine Ev.iteF (by omega) ?_
    have hl : (x.map convLine).length ≤ 1048576 := by simpa using h
    obtain ⟨r, h1, h2⟩ := free_both (x.map convLine) p (by omega)
    refine Ev.bind (toLineS_eq x h) (Ev.bind h1 (Ev.bind (toLineS_eq x h) (Ev.bind h2 ?_)))
    have rest : Ev (fun k => (laws_toLineS.f k x).bind fun t => (laws_eqLineS.f k (x.map convLine) t).bind fun b => if b = true then some true else some false) true :=
      Ev.bind (toLineS_eq x h) (Ev.bind (eqLineS_refl _ (by omega)) (Ev.now true))
    first
    | exact Ev.iteF (by simp) rest
    | exact Ev.iteT rfl rest
  · rw [if_neg h]
    exact Ev.iteT (by omega) (Ev.now true)
end Go.Proofs.Ytldcckcljjlglaa.Pure
