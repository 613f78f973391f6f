-- Written by a program of this session (wip/tools/pmore.py) for this claim; Lean checks it.
import Derived.Test.YthpkmdglokkkpaaP0
import Derived.Test.YthpkmdglokkkpaaPF77
import Derived.Test.YthpkmdglokkkpaaPF76
namespace Go.Proofs.Ythpkmdglokkkpaa.P
open Go.RowKit Go.Proofs.YthpkmdglokkkpaaW.PrintWords Go.Proofs.YthpkmdglokkkpaaW.PrintLast Go.Proofs.YthpkmdglokkkpaaW.PrintMore
attribute [local go_sem] max2_int min2_int max_two min_two max_three min_three max_four min_four   -- for this text's walks alone
set_option linter.unusedVariables false
set_option linter.unusedSimpArgs false

/-! ### impl_isLimited_1: function 79 -/
set_option maxHeartbeats 400000 in
theorem isLimited_lit (x y z most : Int) (B : Nat) (w : World) (hB : B < w.heap.size) (hc : w.cell? ⟨B, 0, none⟩ = some (.int .i64 most)) :
    Calls Try.prog 79 #[.agg #[.int .i64 x, .int .i64 y, .int .i64 z], .pointer (some ⟨B, 0, none⟩)] w fun e w' => e = .returned (.bool (farB x most || farB y most || farB z most)) ∧ Below w.heap.size w w' := by
  have hu25 := Try.underlying25
  cases h0 : farB x most with
  | true =>
    have H0 := Aside0.mk h0
    clear h0
    go_enter Try.func79, Try.ntmps79
    go_wp2_with fail
    (with_reducible refine (impl_isFar.calls x most true _ (isFar_is x most H0.out)).mono ?_); rintro e w0 ⟨rfl, ⟨n0, rfl⟩⟩
    go_wp2_with fail
    go_ret
    exact ⟨rfl, by repeat (first | exact Below.refl _ _ | apply below_alloc | apply pw_below_drewN | apply below_drew1)⟩
  | false =>
    have H0 := Aside0.mk h0
    clear h0
    cases h1 : farB y most with
    | true =>
      have H1 := Aside0.mk h1
      clear h1
      go_enter Try.func79, Try.ntmps79
      go_wp2_with fail
      (with_reducible refine (impl_isFar.calls x most false _ (isFar_is x most H0.out)).mono ?_); rintro e w0 ⟨rfl, ⟨n0, rfl⟩⟩
      go_wp2_with fail
      (with_reducible refine (impl_isFar.calls y most true _ (isFar_is y most H1.out)).mono ?_); rintro e w1 ⟨rfl, ⟨n1, rfl⟩⟩
      go_wp2_with fail
      go_ret
      exact ⟨rfl, by repeat (first | exact Below.refl _ _ | apply below_alloc | apply pw_below_drewN | apply below_drew1)⟩
    | false =>
      have H1 := Aside0.mk h1
      clear h1
      cases h2 : farB z most <;> have H2 := Aside0.mk h2 <;> clear h2
      all_goals
        go_enter Try.func79, Try.ntmps79
        go_wp2_with fail
        (with_reducible refine (impl_isFar.calls x most false _ (isFar_is x most H0.out)).mono ?_); rintro e w0 ⟨rfl, ⟨n0, rfl⟩⟩
        go_wp2_with fail
        (with_reducible refine (impl_isFar.calls y most false _ (isFar_is y most H1.out)).mono ?_); rintro e w1 ⟨rfl, ⟨n1, rfl⟩⟩
        go_wp2_with fail
        (with_reducible refine (impl_isFar.calls z most _ _ (isFar_is z most H2.out)).mono ?_); rintro e w2 ⟨rfl, ⟨n2, rfl⟩⟩
        go_wp2_with fail
        go_ret
        exact ⟨rfl, by repeat (first | exact Below.refl _ _ | apply below_alloc | apply pw_below_drewN | apply below_drew1)⟩

end Go.Proofs.Ythpkmdglokkkpaa.P
