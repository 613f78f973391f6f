/- The program's greatest common divisor of a list comes to Lean's own; the numbers lie between -2^62 and 2^62. -/
import Derived.Test.YthpkmdglokkkpaaGcd
import Derived.Test.YthpkmdglokkkpaaPF60
namespace Go.Proofs.Ythpkmdglokkkpaa.Pure
open Go.RowKit Go.Proofs.Ythpkmdglokkkpaa.P Go.Proofs.YthpkmdglokkkpaaW.PrintWords Go.Proofs.YthpkmdglokkkpaaW.PrintLast Go.Proofs.Ythpkmdglokkkpaa.Com
set_option linter.unusedSimpArgs false
set_option linter.unusedVariables false

/-- The divisor of a list's rest, from what is divided out so far. -/
def gcdL : Nat → List Int → Nat
  | g, [] => g
  | g, x :: l => gcdL (Nat.gcd g x.natAbs) l
theorem div_inner (n : Nat) : ∀ (o x : Int) (l : List Int) (m i : Int), x.natAbs ≤ n → o.natAbs ≤ 4611686018427387904 → x.natAbs ≤ 4611686018427387904 → ∀ r : Int,
    (∀ o' : Int, o'.natAbs = Int.gcd o x → o'.natAbs ≤ 4611686018427387904 → Ev (fun k => impl_divisor.l0 k o' l m (wrap64 (i + 1))) r) → Ev (fun k => impl_divisor.l1 k o x l m i) r := by
  induction n with
  | zero =>
    intro o x l m i hx ho _ r h
    obtain rfl : x = 0 := by omega
    refine Ev.step (f := fun k => impl_divisor.l0 k o l m (wrap64 (i + 1))) (fun k => by simp only [impl_divisor.l1, if_true]) (h o (by simp) ho)
  | succ n ih =>
    intro o x l m i hx ho hx2 r h
    by_cases h0 : x = 0
    · subst h0; exact ih o 0 l m i (by omega) ho (by omega) r h
    have hlt := tmod_bd o x h0
    refine Ev.step (f := fun k => impl_divisor.l1 k x (Int.tmod o x) l m i) (fun k => by simp only [impl_divisor.l1]; rw [if_neg h0]) ?_
    exact ih x (Int.tmod o x) l m i (by omega) hx2 (by omega) r (fun o' e b => h o' (by rw [e, gcd_step]) b)
theorem gcd_le_max (o x : Int) (ho : o.natAbs ≤ 4611686018427387904) (hx : x.natAbs ≤ 4611686018427387904) : Int.gcd o x ≤ 4611686018427387904 := by
  unfold Int.gcd
  by_cases h : x.natAbs = 0
  · rw [h, Nat.gcd_zero_right]; exact ho
  · exact Nat.le_trans (Nat.le_of_dvd (by omega) (Nat.gcd_dvd_right _ _)) hx
theorem div_outer (l : List Int) (hl : l.length ≤ 1099511627776) (hb : ∀ x ∈ l, x.natAbs ≤ 4611686018427387904) (d : Nat) : ∀ (o i : Int), 0 ≤ i → i + d = l.length → o.natAbs ≤ 4611686018427387904 →
    Ev (fun k => impl_divisor.l0 k o l (l.length : Int) i) (gcdL o.natAbs (l.drop i.toNat) : Int) := by
  induction d with
  | zero =>
    intro o i h0 hi ho
    refine Ev.step (f := fun _ => some (gcdL o.natAbs (l.drop i.toNat) : Int)) (fun k => ?_) (Ev.now _)
    simp only [impl_divisor.l0]
    rw [if_neg (by omega), List.drop_of_length_le (by omega), mx_abs o ho]; rfl
  | succ d ih =>
    intro o i h0 hi ho
    have hlt : i.toNat < l.length := by omega
    have hm : rd l i ∈ l := getD_mem l i.toNat 0 hlt
    refine Ev.step (f := fun k => impl_divisor.l1 k o (rd l i) l (l.length : Int) i) (fun k => by simp only [impl_divisor.l0]; rw [if_pos (by omega), if_pos h0, if_pos (by omega)]) ?_
    refine div_inner _ o (rd l i) l _ i (Nat.le_refl _) ho (hb _ hm) _ (fun o' e b => ?_)
    have := ih o' (i + 1) (by omega) (by omega) b
    rw [w64 (by omega) (by omega), drop_cons l i.toNat 0 hlt]
    rw [show (i + 1).toNat = i.toNat + 1 from by omega] at this
    have e2 : gcdL o.natAbs (l.getD i.toNat 0 :: l.drop (i.toNat + 1)) = gcdL o'.natAbs (l.drop (i.toNat + 1)) := by
      simp only [gcdL]; rw [e]; rfl
    rw [e2]; exact this
theorem divisor_ev (l : List Int) (hl : l.length ≤ 1099511627776) (hb : ∀ x ∈ l, x.natAbs ≤ 4611686018427387904) : Ev (fun k => impl_divisor.f k l) (gcdL 0 l : Int) := by
  have := div_outer l hl hb l.length 0 0 (by omega) (by omega) (by simp)
  simpa [impl_divisor.f] using this
theorem divisor2 (x y : Int) (hx : x.natAbs ≤ 4611686018427387904) (hy : y.natAbs ≤ 4611686018427387904) : Ev (fun k => impl_divisor.f k [x, y]) (Int.gcd x y : Int) := by
  have := divisor_ev [x, y] (by simp) (by simp [hx, hy])
  simpa [gcdL, Int.gcd] using this
theorem divisor3 (x y z : Int) (hx : x.natAbs ≤ 4611686018427387904) (hy : y.natAbs ≤ 4611686018427387904) (hz : z.natAbs ≤ 4611686018427387904) : Ev (fun k => impl_divisor.f k [x, y, z]) (Int.gcd (Int.gcd x y) z : Int) := by
  have := divisor_ev [x, y, z] (by simp) (by simp [hx, hy, hz])
  simpa [gcdL, Int.gcd] using this
end Go.Proofs.Ythpkmdglokkkpaa.Pure
