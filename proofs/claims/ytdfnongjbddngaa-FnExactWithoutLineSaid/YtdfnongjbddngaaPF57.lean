-- Written by a program of this session (wip/tools/pmore.py) for this claim; Lean checks it.
import Derived.Test.YtdfnongjbddngaaP0
import Derived.Test.YtdfnongjbddngaaPF58
namespace Go.Proofs.Ytdfnongjbddngaa.P
open Go.RowKit Go.Proofs.YtdfnongjbddngaaW.PrintWords Go.Proofs.YtdfnongjbddngaaW.PrintLast Go.Proofs.YtdfnongjbddngaaW.PrintMore
attribute [local go_sem] max2_int min2_int max_two min_two max_three min_three max_four min_four   -- for this text's walks alone
set_option linter.unusedVariables false
set_option linter.unusedSimpArgs false

/-! ### impl_AreLines_1: function 57 -/
def sameB (a b : S48) : Bool := (impl_areSame.f a.f0 a.f1 a.f2 b.f0 b.f1 b.f2).getD false
theorem areSame_is (a b : S48) : impl_areSame.f a.f0 a.f1 a.f2 b.f0 b.f1 b.f2 = some (sameB a b) := by
  unfold sameB impl_areSame.f
  (repeat' split) <;> rfl
set_option maxHeartbeats 400000 in
theorem AreLines_lit (x y : S48) (B : Nat) (w : World) (hB : B < w.heap.size) (h0 : w.cell? ⟨B, 0, none⟩ = some (.int .i64 x.f0)) (h1 : w.cell? ⟨B, 1, none⟩ = some (.int .i64 x.f1)) (h2 : w.cell? ⟨B, 2, none⟩ = some (.int .i64 x.f2)) :
    Calls Try.prog 57 #[.agg #[.int .i64 y.f0, .int .i64 y.f1, .int .i64 y.f2], .pointer (some ⟨B, 0, none⟩)] w fun e w' => e = .returned (.bool (sameB x y)) ∧ Below w.heap.size w w' := by
  have hu48 := Try.underlying48
  go_enter Try.func57, Try.ntmps57
  go_wp2_with fail
  (with_reducible refine (impl_areSame.calls _ _ _ _ _ _ _ _ (areSame_is x y)).mono ?_); rintro e w1 ⟨rfl, hd⟩
  go_wp2_with fail
  go_ret
  exact ⟨rfl, below_step (by repeat (first | exact Below.refl _ _ | apply below_alloc | apply pw_below_drewN | apply below_drew1)) hd⟩

end Go.Proofs.Ytdfnongjbddngaa.P
