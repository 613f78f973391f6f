-- Written by a program of this session (wip/tools/pmore.py) for this claim; Lean checks it.
import Derived.Test.YtdfnongjbddngaaP0
namespace Go.Proofs.Ytdfnongjbddngaa.P
open Go.RowKit Go.Proofs.YtdfnongjbddngaaW.PrintWords Go.Proofs.YtdfnongjbddngaaW.PrintLast Go.Proofs.YtdfnongjbddngaaW.PrintMore
attribute [local go_sem] max2_int min2_int max_two min_two max_three min_three max_four min_four   -- for this text's walks alone
set_option linter.unusedVariables false
set_option linter.unusedSimpArgs false

/-! ### impl_Line_69: function 69 -/
/-- What is asked of a predicate on elements of this kind. -/
def PredLine (g : Nat) (lb : Array Value) (p : S48 → Bool) (w : World) : Prop :=
  ∀ (W : World) (x : S48), Below w.heap.size w W → Calls Try.prog g (#[.agg #[.int .i64 x.f0, .int .i64 x.f1, .int .i64 x.f2]] ++ lb) W fun e w' => e = .returned (.bool (p x)) ∧ Below W.heap.size W w'
def idxLine (p : S48 → Bool) : List S48 → Nat → Int
  | [], _ => -1
  | x :: l, i => if p x then i else idxLine p l (i + 1)
theorem idxLine_skip (p : S48 → Bool) (l : List S48) (k i : Nat) (h : ∀ j, j < k → j < l.length → p (l.getD j z48) = false) (hk : k ≤ l.length) : idxLine p l i = idxLine p (l.drop k) (i + k) := by
  induction k generalizing l i with
  | zero => simp
  | succ k ih =>
    cases l with
    | nil => simp at hk
    | cons x l =>
      have hx : p x = false := by simpa using h 0 (by omega) (by simp)
      simp only [idxLine, hx, List.drop_succ_cons]
      rw [if_neg (by decide), ih l (i + 1) (fun j hj hl => by simpa using h (j + 1) (by omega) (by simpa using hl)) (by simpa using hk)]
      simp [Nat.add_assoc, Nat.add_comm 1 k]
theorem idxLine_any (p : S48 → Bool) (l : List S48) (i : Nat) : decide (0 ≤ idxLine p l i) = l.any p := by
  induction l generalizing i with
  | nil => rfl
  | cons x l ih =>
    simp only [idxLine, List.any_cons]
    by_cases h : p x = true
    · simp [h]
    · simp [h, ih]
set_option maxHeartbeats 1000000 in
set_option maxRecDepth 100000 in
theorem indexLine_calls (g : Nat) (lb : Array Value) (eg : ∀ args w, (callFunc g args).run Try.prog w = .ok (.enter g args) w) (p : S48 → Bool) (A : Option Addr) (c : Nat) (l : List S48) (w : World) (hr : Kd.C k48 w A l.length l) (hc : l.length ≤ c) (hp : PredLine g lb p w) :
    Calls Try.prog 69 #[.slice A l.length c, .func (.func g) #[] lb] w fun e w' => e = .returned (.int .i64 (idxLine p l 0)) ∧ Below w.heap.size w w' := by
  have hu48 := Try.underlying48
  have hmax : l.length ≤ 9223372036854775807 := hr.2.1
  have HR := Aside0.mk hr
  have HP := Aside0.mk hp
  clear hr hp
  go_enter Try.func69, Try.ntmps69
  go_wp2_with fail
  go_loopg [5, 8] l.length (fun gg _ s8 wr => ∃ kk : Nat, kk ≤ l.length ∧ l.length - kk ≤ gg ∧ s8 = .int .i64 kk ∧ Aside0 (Below w.heap.size w wr) ∧ Aside0 (∀ j, j < kk → j < l.length → p (l.getD j z48) = false))
  case atStart => exact ⟨0, Nat.zero_le _, by omega, rfl, ⟨Below.refl _ w⟩, ⟨fun j hj => absurd hj (Nat.not_lt_zero _)⟩⟩
  case round =>
    obtain ⟨kk, hkk, hg, rfl, BW, AA⟩ := hrel
    by_cases hlt : kk < l.length
    · have hltz : (kk : Int) < (l.length : Int) := by omega
      obtain ⟨ad, rfl, hx0, hx1, hx2⟩ := at_T48 (Kd.C_below HR.out BW.out) (kk : Int) (by omega) hltz
      simp only [Int.toNat_natCast] at hx0 hx1 hx2
      have hcall := HP.out wr (rd_T48 l (kk : Int)) BW.out
      have hrdk : rd_T48 l (kk : Int) = l.getD kk z48 := rfl
      generalize hy : rd_T48 l (kk : Int) = y at hx0 hx1 hx2 hcall hrdk
      have HY := Aside0.mk hrdk
      clear hrdk hy
      cases hq : p y with
      | true =>
        rw [hq] at hcall
        have HQ := Aside0.mk hq
        clear hq
        go_wp2_with (go_at_fn g; refine hcall.mono ?_; rintro e w' ⟨rfl, hb'⟩)
        go_ret
        refine ⟨?_, below_step BW.out hb'⟩
        rw [idxLine_skip p l kk 0 AA.out hkk, List.drop_eq_getElem_cons hlt]
        have hyy : l[kk] = y := by rw [HY.out]; simp [List.getD, List.getElem?_eq_getElem hlt]
        simp only [idxLine, hyy, HQ.out]
        simp
      | false =>
        rw [hq] at hcall
        have HQ := Aside0.mk hq
        clear hq
        go_wp2_with (go_at_fn g; refine hcall.mono ?_; rintro e w' ⟨rfl, hb'⟩)
        go_roundg (l.length - (kk + 1))
        case measure => omega
        case rel =>
          refine ⟨kk + 1, by omega, by omega, by go_num, ⟨below_step BW.out hb'⟩, ⟨fun j hj hjl => ?_⟩⟩
          by_cases e : j = kk
          · subst e
            rw [← HY.out]; exact HQ.out
          · exact AA.out j (by omega) hjl
    · have hltz : ¬ (kk : Int) < (l.length : Int) := by omega
      have hkl : kk = l.length := by omega
      subst hkl
      go_wp2_with fail
      go_ret
      refine ⟨?_, BW.out⟩
      rw [idxLine_skip p l l.length 0 AA.out (Nat.le_refl _), List.drop_length]
      rfl

end Go.Proofs.Ytdfnongjbddngaa.P
