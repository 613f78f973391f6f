-- Written by a program of this session (wip/tools/pmore.py) for this claim; Lean checks it.
import Derived.Test.YtdfnongjbddngaaP0
import Derived.Test.YtdfnongjbddngaaPF69
namespace Go.Proofs.Ytdfnongjbddngaa.P
open Go.RowKit Go.Proofs.YtdfnongjbddngaaW.PrintWords Go.Proofs.YtdfnongjbddngaaW.PrintLast Go.Proofs.YtdfnongjbddngaaW.PrintMore
attribute [local go_sem] max2_int min2_int max_two min_two max_three min_three max_four min_four   -- for this text's walks alone
set_option linter.unusedVariables false
set_option linter.unusedSimpArgs false

/-! ### impl_Line_56: function 56 -/
theorem containsLine_calls (g : Nat) (lb : Array Value) (eg : ∀ args w, (callFunc g args).run Try.prog w = .ok (.enter g args) w) (p : S48 → Bool) (A : Option Addr) (c : Nat) (l : List S48) (w : World) (hr : Kd.C k48 w A l.length l) (hc : l.length ≤ c) (hp : PredLine g lb p w) :
    Calls Try.prog 56 #[.slice A l.length c, .func (.func g) #[] lb] w fun e w' => e = .returned (.bool (l.any p)) ∧ Below w.heap.size w w' := by
  have HR := Aside0.mk hr
  have HP := Aside0.mk hp
  have HA := Aside0.mk (idxLine_any p l 0)
  clear hr hp
  go_enter Try.func56, Try.ntmps56
  go_wp2_with fail
  (with_reducible refine (indexLine_calls g lb eg p A c l _ HR.out hc HP.out).mono ?_); rintro e w1 ⟨rfl, hb⟩
  go_wp2_with fail
  go_ret
  exact ⟨by rw [← HA.out]; rfl, hb⟩

end Go.Proofs.Ytdfnongjbddngaa.P
