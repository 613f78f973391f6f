-- Written by a program of this session (wip/tools/pmore.py) for this claim; Lean checks it.
import Derived.Test.YtldcckcljjlglaaP0
import Derived.Test.YtldcckcljjlglaaPF21
import Derived.Lib.SliceRun
namespace Go.Proofs.Ytldcckcljjlglaa.P
open Go.RowKit Go.Proofs.YtldcckcljjlglaaW.PrintWords Go.Proofs.YtldcckcljjlglaaW.PrintLast Go.Proofs.YtldcckcljjlglaaW.PrintMore
attribute [local go_sem] max2_int min2_int max_two min_two max_three min_three max_four min_four   -- for this text's walks alone
set_option linter.unusedVariables false
set_option linter.unusedSimpArgs false

/-! ### impl_CountFree: function 18 -/
def impl_CountFree.f (k : Nat) (l0 : List S40) (a1 : Int) : Option Int := (impl_OnRow.f k l0 a1).bind fun t => some (match t with | [] => -1 | x :: _ => x)
theorem impl_CountFree.mono : ∀ a0 a1 k, LeO (impl_CountFree.f k a0 a1) (impl_CountFree.f (k + 1) a0 a1) := fun a0 a1 k => LeO.bind (impl_OnRow.mono a0 a1 k) (fun _ => LeO.refl _)
set_option maxHeartbeats 4000000 in
set_option maxRecDepth 100000 in
theorem impl_CountFree.calls (k : Nat) (A0 : Option Addr) (c0 : Nat) (l0 : List S40) (a1 : Int) (r : Int) (w : World) (hr0 : Kd.C k40 w A0 l0.length l0) (hc0 : l0.length ≤ c0) (h : impl_CountFree.f k l0 a1 = some r) :
    Calls Try.prog 18 #[.slice A0 l0.length c0, .int .i64 a1] w fun e w' => e = .returned (.int .i64 r) ∧ Below w.heap.size w w' := by
  obtain ⟨t, ht, hr⟩ := Option.bind_eq_some_iff.mp h
  have HT := Aside0.mk ht
  have HR := Aside0.mk hr0
  have HC := Aside0.mk hc0
  clear h ht hr0 hc0
  go_enter Try.func18, Try.ntmps18
  go_wp2_with fail
  (with_reducible refine (impl_OnRow.callsN k A0 c0 l0 a1 t _ HR.out HC.out HT.out).mono ?_)
  rintro e w1 ⟨v, rfl, hn, hR, hB⟩
  cases t with
  | nil =>
    obtain rfl := hn rfl
    obtain rfl := Option.some.inj hr
    have HQ := Lib.run_eql_slice_nil w1 29 3 none 0 0 0 0 Try.underlying29
    have HB := Aside0.mk hB
    clear hB hn hR
    go_wp2
    go_ret
    exact ⟨rfl, by repeat (first | (with_reducible first | exact HB.out | apply below_alloc | apply pw_below_drewN | apply below_drew1) | exact HB.out)⟩
  | cons x xs =>
    obtain rfl := Option.some.inj hr
    have HB := Aside0.mk hB
    obtain ⟨g, cap, rfl, _, _, _⟩ := Kd.R_form hR (by simp)
    obtain ⟨_, _, hC⟩ := Kd.R_reads' hR
    obtain ⟨ad, ea, hx⟩ := Kd.at_int hC 0 (Int.le_refl 0) (by simp)
    cases ea
    have hx : w1.cell? ⟨g, 0, none⟩ = some (.int .i64 x) := hx
    have HQ := Lib.run_eql_slice_nil w1 29 3 (some ⟨g, 0, none⟩) (xs.length + 1) cap 0 0 Try.underlying29
    clear hB hn hR hC
    go_wp2
    go_ret
    exact ⟨rfl, by repeat (first | (with_reducible first | exact HB.out | apply below_alloc | apply pw_below_drewN | apply below_drew1) | exact HB.out)⟩

end Go.Proofs.Ytldcckcljjlglaa.P
