/- What the laws' helpers for rows of Line come to: the conversion, the comparison of a row with itself; no condition but the row's length. -/
import Derived.Test.YtdfnongjbddngaaCom
import Derived.Test.YtdfnongjbddngaaPF9
import Derived.Test.YtdfnongjbddngaaPF11
namespace Go.Proofs.Ytdfnongjbddngaa.Pure
open Go.RowKit Go.Proofs.Ytdfnongjbddngaa.P Go.Proofs.YtdfnongjbddngaaW.PrintWords Go.Proofs.YtdfnongjbddngaaW.PrintLast
set_option linter.unusedSimpArgs false
set_option linter.unusedVariables false
open Go.Proofs.Ytdfnongjbddngaa.Com
def convLine (x : S50) : S48 := ⟨x.f0, x.f1, x.f2⟩
theorem toLineS_l0 (l : List S50) (hm : l.length ≤ 1099511627776) (d : Nat) : ∀ (k : Nat) (i : Int) (out : List S48), 0 ≤ i → i + d = l.length → out.length = l.length → d < k →
    laws_toLineS.l0 k l out i = some (out.take i.toNat ++ (l.drop i.toNat).map convLine) := by
  induction d with
  | zero =>
    intro k i out h0 hi ho hk
    obtain ⟨k, rfl, _⟩ := succ_of_lt hk
    simp only [laws_toLineS.l0]
    rw [if_neg (by omega), List.take_of_length_le (by omega), List.drop_of_length_le (by omega)]; simp
  | succ d ih =>
    intro k i out h0 hi ho hk
    obtain ⟨k, rfl, hk⟩ := succ_of_lt hk
    have hlt : i.toNat < out.length := by omega
    simp only [laws_toLineS.l0]
    rw [if_pos (by omega), if_pos h0]
    simp only [laws_toLine.f, Option.bind_some]
    rw [if_pos (by omega), w64 (by omega) (by omega), ih k (i + 1) _ (by omega) (by omega) (by simpa using ho) (by omega)]
    rw [show (i + 1).toNat = i.toNat + 1 from by omega, set_take_succ _ _ _ hlt, drop_cons l i.toNat z50 (by omega)]
    simp [convLine, rd_T50]
theorem toLineS_eq (l : List S50) (hm : l.length ≤ 1048576) : Ev (fun k => laws_toLineS.f k l) (l.map convLine) := by
  refine ⟨l.length + 1, fun k hk => ?_⟩
  dsimp only
  unfold laws_toLineS.f
  rw [if_pos (by omega), if_pos (by omega), toLineS_l0 l (by omega) l.length k 0 _ (by omega) (by omega) (by simp) (by omega)]
  simp
theorem eqLineS_l0 (a : List S48) (hm : a.length ≤ 1099511627776) (d : Nat) : ∀ (k : Nat) (i : Int), 0 ≤ i → i + d = a.length → d < k → laws_eqLineS.l0 k a a i = some true := by
  induction d with
  | zero =>
    intro k i h0 hi hk
    obtain ⟨k, rfl, _⟩ := succ_of_lt hk
    simp only [laws_eqLineS.l0]
    rw [if_neg (by omega)]
  | succ d ih =>
    intro k i h0 hi hk
    obtain ⟨k, rfl, hk⟩ := succ_of_lt hk
    simp only [laws_eqLineS.l0]
    rw [if_pos (by omega), if_pos h0, if_pos (by omega)]
    simp only [laws_eqLine.f, if_true, Option.bind_some]
    rw [w64 (by omega) (by omega), ih k (i + 1) (by omega) (by omega) (by omega)]
theorem eqLineS_refl (a : List S48) (hm : a.length ≤ 1099511627776) : Ev (fun k => laws_eqLineS.f k a a) true := by
  refine ⟨a.length + 1, fun k hk => ?_⟩
  dsimp only
  unfold laws_eqLineS.f
  rw [if_pos rfl, eqLineS_l0 a hm a.length k 0 (by omega) (by omega) (by omega)]
end Go.Proofs.Ytdfnongjbddngaa.Pure
