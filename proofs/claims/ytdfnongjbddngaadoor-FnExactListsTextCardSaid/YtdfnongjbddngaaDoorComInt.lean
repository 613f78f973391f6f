/- What the laws' helpers for rows of numbers come to: the conversion, the comparison of a row with itself; no condition but the row's length. -/
import Derived.Test.YtdfnongjbddngaaDoorCom
import Derived.Test.YtdfnongjbddngaaDoorPF15
import Derived.Test.YtdfnongjbddngaaDoorPF17
namespace Go.Proofs.YtdfnongjbddngaaDoor.Pure
open Go.RowKit Go.Proofs.YtdfnongjbddngaaDoor.P Go.Proofs.YtdfnongjbddngaaDoorW.PrintWords Go.Proofs.YtdfnongjbddngaaDoorW.PrintLast
set_option linter.unusedSimpArgs false
set_option linter.unusedVariables false
open Go.Proofs.YtdfnongjbddngaaDoor.Com
theorem toIntS_l0 (l : List Int) (hm : l.length ≤ 1099511627776) (d : Nat) : ∀ (k : Nat) (i : Int) (out : List Int), 0 ≤ i → i + d = l.length → out.length = l.length → d < k →
    laws_toIntS.l0 k l out i = some (out.take i.toNat ++ l.drop i.toNat) := by
  induction d with
  | zero =>
    intro k i out h0 hi ho hk
    obtain ⟨k, rfl, _⟩ := succ_of_lt hk
    simp only [laws_toIntS.l0]
    rw [if_neg (by omega), List.take_of_length_le (by omega), List.drop_of_length_le (by omega)]; simp
  | succ d ih =>
    intro k i out h0 hi ho hk
    obtain ⟨k, rfl, hk⟩ := succ_of_lt hk
    have hlt : i.toNat < out.length := by omega
    simp only [laws_toIntS.l0]
    rw [if_pos (by omega), if_pos h0, if_pos (by omega), w64 (by omega) (by omega), ih k (i + 1) _ (by omega) (by omega) (by simpa using ho) (by omega)]
    rw [show (i + 1).toNat = i.toNat + 1 from by omega, set_take_succ _ _ _ hlt, drop_cons l i.toNat 0 (by omega)]
    simp [rd]
theorem toIntS_eq (l : List Int) (hm : l.length ≤ 1048576) : Ev (fun k => laws_toIntS.f k l) l := by
  refine ⟨l.length + 1, fun k hk => ?_⟩
  dsimp only
  unfold laws_toIntS.f
  rw [if_pos (by omega), if_pos (by omega), toIntS_l0 l (by omega) l.length k 0 _ (by omega) (by omega) (by simp) (by omega)]
  simp
theorem eqIntS_l0 (a : List Int) (hm : a.length ≤ 1099511627776) (d : Nat) : ∀ (k : Nat) (i : Int), 0 ≤ i → i + d = a.length → d < k → laws_eqIntS.l0 k a a i = some true := by
  induction d with
  | zero =>
    intro k i h0 hi hk
    obtain ⟨k, rfl, _⟩ := succ_of_lt hk
    simp only [laws_eqIntS.l0]
    rw [if_neg (by omega)]
  | succ d ih =>
    intro k i h0 hi hk
    obtain ⟨k, rfl, hk⟩ := succ_of_lt hk
    simp only [laws_eqIntS.l0, if_true]
    rw [if_pos (by omega), if_pos h0, if_pos (by omega), w64 (by omega) (by omega), ih k (i + 1) (by omega) (by omega) (by omega)]
theorem eqIntS_refl (a : List Int) (hm : a.length ≤ 1099511627776) : Ev (fun k => laws_eqIntS.f k a a) true := by
  refine ⟨a.length + 1, fun k hk => ?_⟩
  dsimp only
  unfold laws_eqIntS.f
  rw [if_pos rfl, eqIntS_l0 a hm a.length k 0 (by omega) (by omega) (by omega)]
end Go.Proofs.YtdfnongjbddngaaDoor.Pure
