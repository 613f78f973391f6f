/- The greatest common divisor: the reference's loop and the program's come to Lean's own; the numbers lie between -2^62 and 2^62. -/
import Derived.Test.YthpkmdglokkkpaaCom
import Derived.Test.YthpkmdglokkkpaaPF59
import Derived.Test.YthpkmdglokkkpaaPF82
namespace Go.Proofs.Ythpkmdglokkkpaa.Pure
open Go.RowKit Go.Proofs.Ythpkmdglokkkpaa.P Go.Proofs.YthpkmdglokkkpaaW.PrintWords Go.Proofs.YthpkmdglokkkpaaW.PrintLast Go.Proofs.Ythpkmdglokkkpaa.Com
set_option linter.unusedSimpArgs false
set_option linter.unusedVariables false

theorem tmod_bd (a b : Int) (hb : b ≠ 0) : (Int.tmod a b).natAbs < b.natAbs := by
  rw [Int.natAbs_tmod]; exact Nat.mod_lt _ (by omega)
theorem gcd_step (a b : Int) : Int.gcd b (Int.tmod a b) = Int.gcd a b := by
  unfold Int.gcd
  rw [Int.natAbs_tmod, Nat.gcd_comm b.natAbs, ← Nat.gcd_rec, Nat.gcd_comm]
theorem mx_abs (r : Int) (h : r.natAbs ≤ 4611686018427387904) : mx r (wrap64 (-r)) = (r.natAbs : Int) := by
  rw [w64 (by omega) (by omega)]; unfold mx; omega
theorem gcdLoop (n : Nat) : ∀ (a b : Int), b.natAbs ≤ n → a.natAbs ≤ 4611686018427387904 → b.natAbs ≤ 4611686018427387904 →
    Ev (fun k => spec_l24Gcd.l0 k a b) (Int.gcd a b : Int) := by
  induction n with
  | zero =>
    intro a b hb ha _
    obtain rfl : b = 0 := by omega
    refine Ev.step (f := fun _ => some (Int.gcd a 0 : Int)) (fun k => ?_) (Ev.now _)
    simp only [spec_l24Gcd.l0, if_true, spec_l1Max.f]
    rw [w64 (by omega) (by omega)]
    have hg : Int.gcd a 0 = a.natAbs := by simp
    rw [hg]
    by_cases h : a > -a
    · rw [if_pos h]; simp only [Option.bind_some]; congr 1; omega
    · rw [if_neg h]; simp only [Option.bind_some]; congr 1; omega
  | succ n ih =>
    intro a b hb ha hb2
    by_cases h0 : b = 0
    · subst h0; exact ih a 0 (by omega) ha (by omega)
    have hlt := tmod_bd a b h0
    have := ih b (Int.tmod a b) (by omega) hb2 (by omega)
    rw [gcd_step] at this
    refine Ev.step (f := fun k => spec_l24Gcd.l0 k b (Int.tmod a b)) (fun k => ?_) this
    simp only [spec_l24Gcd.l0]
    rw [if_neg h0]
theorem l24Gcd_ev (a b : Int) (ha : a.natAbs ≤ 4611686018427387904) (hb : b.natAbs ≤ 4611686018427387904) : Ev (fun k => spec_l24Gcd.f k a b) (Int.gcd a b : Int) := gcdLoop _ a b (Nat.le_refl _) ha hb
end Go.Proofs.Ythpkmdglokkkpaa.Pure
