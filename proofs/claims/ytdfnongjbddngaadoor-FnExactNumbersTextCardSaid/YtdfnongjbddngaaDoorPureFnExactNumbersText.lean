/- For every row of numbers the program's NumbersText returns what the reference's returns and leaves the row as it was; no condition. -/
import Derived.Test.YtdfnongjbddngaaDoorNumbers
import Derived.Test.YtdfnongjbddngaaDoorComInt
import Derived.Test.YtdfnongjbddngaaDoorPF5
namespace Go.Proofs.YtdfnongjbddngaaDoor.Pure
open Go.RowKit Go.Proofs.YtdfnongjbddngaaDoor.P Go.Proofs.YtdfnongjbddngaaDoorW.PrintWords Go.Proofs.YtdfnongjbddngaaDoorW.PrintLast Go.Proofs.YtdfnongjbddngaaDoor.Com
set_option linter.unusedSimpArgs false
set_option linter.unusedVariables false

theorem FnExactNumbersText : laws_FnExactNumbersText.Pure := by
  rintro x ⟨_, hw⟩
  have h : ∀ n ∈ x, I64 n := fun n hn => i64_of_wf (hw n hn)
  apply Ev.rounds
  unfold laws_FnExactNumbersText.f
  by_cases hl : (x.length : Int) > 1048576
  · exact Ev.iteT hl (Ev.now true)
  · refine Ev.iteF hl ?_
    have e1 : Ev (fun k => spec_NumbersText.f k x) (numText x) := Ev.from (2 * x.length + 60) (fun k hk => snumText_eq x h (by omega) k hk)
    have e2 : Ev (fun k => impl_NumbersText.f k x) (numText x) := Ev.from (x.length + 1) (fun k hk => inumText_eq x h (by omega) k (by omega))
    exact Ev.bind (toIntS_eq x (by omega)) (Ev.bind e1 (Ev.bind (toIntS_eq x (by omega)) (Ev.bind e2 (Ev.iteT rfl (Ev.bind (toIntS_eq x (by omega)) (Ev.bind (eqIntS_refl x (by omega)) (Ev.iteT rfl (Ev.now true))))))))
end Go.Proofs.YtdfnongjbddngaaDoor.Pure
