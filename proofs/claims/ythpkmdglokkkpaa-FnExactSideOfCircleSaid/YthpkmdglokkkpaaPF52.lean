-- Written by a program of this session (wip/tools/pmore.py) for this claim; Lean checks it.
import Derived.Test.YthpkmdglokkkpaaP0
import Derived.Test.YthpkmdglokkkpaaPF75
import Derived.Test.YthpkmdglokkkpaaPF76
namespace Go.Proofs.Ythpkmdglokkkpaa.P
open Go.RowKit Go.Proofs.YthpkmdglokkkpaaW.PrintWords Go.Proofs.YthpkmdglokkkpaaW.PrintLast Go.Proofs.YthpkmdglokkkpaaW.PrintMore
attribute [local go_sem] max2_int min2_int max_two min_two max_three min_three max_four min_four   -- for this text's walks alone
set_option linter.unusedVariables false
set_option linter.unusedSimpArgs false

/-! ### impl_areNear: function 52 -/
def outPoint (most : Int) (p : S27) : Bool := farB p.f0 most || farB p.f1 most
def impl_areNear.f (a0 : Int) (l1 : List S27) : Option Bool := some (!l1.any (outPoint a0))
set_option maxHeartbeats 400000 in
theorem impl_areNear.calls (a0 : Int) (A1 : Option Addr) (c1 : Nat) (l1 : List S27) (r : Bool) (w : World) (hr1 : Kd.C k27 w A1 l1.length l1) (hc1 : l1.length ≤ c1) (h : impl_areNear.f a0 l1 = some r) :
    Calls Try.prog 52 #[.int .i64 a0, .slice A1 l1.length c1] w fun e w' => e = .returned (.bool r) ∧ Below w.heap.size w w' := by
  have H : (!l1.any (outPoint a0)) = r := Option.some.inj h
  have HH := Aside0.mk H
  clear H h
  have HR := Aside0.mk hr1
  clear hr1
  have eg : ∀ (args : Array Value) (w : World), (callFunc 76 args).run Try.prog w = .ok (.enter 76 args) w := enters_of Try.func76 (by kernel_rfl) rfl
  go_enter Try.func52, Try.ntmps52
  go_wp2_with fail
  (with_reducible refine (containsPoint_calls 76 _ eg (outPoint a0) A1 c1 l1 _ ?side1 hc1 ?side2).mono ?_)
  case side1 => repeat (first | exact HR.out | (with_reducible refine Kd.C_alloc ?_ _) | (with_reducible refine Kd.C_drewN ?_ _) | (with_reducible refine Kd.C_drew ?_))
  case side2 =>
    intro W x hb
    have hlt : w.heap.size < W.heap.size := by have := hb.size; simp at this; omega
    exact areNear_lit x.f0 x.f1 a0 w.heap.size W hlt ((hb.cell (p := ⟨w.heap.size, 0, none⟩) (by simp)).trans (by simp))
  rintro e w1 ⟨rfl, hb⟩
  go_wp2_with fail
  go_ret
  exact ⟨by rw [← HH.out]; rfl, below_step (by repeat (first | exact Below.refl _ _ | apply below_alloc | apply pw_below_drewN | apply below_drew1)) hb⟩

end Go.Proofs.Ythpkmdglokkkpaa.P
