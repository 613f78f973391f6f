-- Written by a program of this session (wip/tools/pmore.py) for this claim; Lean checks it.
import Derived.Test.YtldcckcljjlglaaP0
import Derived.Test.YtldcckcljjlglaaPF95
namespace Go.Proofs.Ytldcckcljjlglaa.P
open Go.RowKit Go.Proofs.YtldcckcljjlglaaW.PrintWords Go.Proofs.YtldcckcljjlglaaW.PrintLast Go.Proofs.YtldcckcljjlglaaW.PrintMore
attribute [local go_sem] max2_int min2_int max_two min_two max_three min_three max_four min_four   -- for this text's walks alone
set_option linter.unusedVariables false
set_option linter.unusedSimpArgs false

/-! ### impl_areNear_1: function 169 -/
def farB (n most : Int) : Bool := (impl_isFar.f n most).getD false
theorem isFar_some (n most : Int) : impl_isFar.f n most = some (farB n most) := by
  unfold farB impl_isFar.f; split <;> rfl
theorem isFar_is (n most : Int) {b : Bool} (h : farB n most = b) : impl_isFar.f n most = some b := by rw [isFar_some, h]
set_option maxHeartbeats 400000 in
theorem areNear_lit (x y most : Int) (B : Nat) (w : World) (hB : B < w.heap.size) (hc : w.cell? ⟨B, 0, none⟩ = some (.int .i64 most)) :
    Calls Try.prog 169 #[.agg #[.int .i64 x, .int .i64 y], .pointer (some ⟨B, 0, none⟩)] w fun e w' => e = .returned (.bool (farB x most || farB y most)) ∧ Below w.heap.size w w' := by
  have hu80 := Try.underlying80
  cases h0 : farB x most with
  | true =>
    have H0 := Aside0.mk h0
    clear h0
    go_enter Try.func169, Try.ntmps169
    go_wp2_with fail
    (with_reducible refine (impl_isFar.calls x most true _ (isFar_is x most H0.out)).mono ?_); rintro e w0 ⟨rfl, ⟨n0, rfl⟩⟩
    go_wp2_with fail
    go_ret
    exact ⟨rfl, by repeat (first | exact Below.refl _ _ | apply below_alloc | apply pw_below_drewN | apply below_drew1)⟩
  | false =>
    have H0 := Aside0.mk h0
    clear h0
    cases h1 : farB y most <;> have H1 := Aside0.mk h1 <;> clear h1
    all_goals
      go_enter Try.func169, Try.ntmps169
      go_wp2_with fail
      (with_reducible refine (impl_isFar.calls x most false _ (isFar_is x most H0.out)).mono ?_); rintro e w0 ⟨rfl, ⟨n0, rfl⟩⟩
      go_wp2_with fail
      (with_reducible refine (impl_isFar.calls y most _ _ (isFar_is y most H1.out)).mono ?_); rintro e w1 ⟨rfl, ⟨n1, rfl⟩⟩
      go_wp2_with fail
      go_ret
      exact ⟨rfl, by repeat (first | exact Below.refl _ _ | apply below_alloc | apply pw_below_drewN | apply below_drew1)⟩

end Go.Proofs.Ytldcckcljjlglaa.P
