/- What the laws' helpers that mark a row of Line, and look whether it holds the marks, come to; no condition but the row's length. -/
import Derived.Test.YtdfnongjbddngaaCom
import Derived.Test.YtdfnongjbddngaaPF12
import Derived.Test.YtdfnongjbddngaaPF13
namespace Go.Proofs.Ytdfnongjbddngaa.Pure
open Go.RowKit Go.Proofs.Ytdfnongjbddngaa.P Go.Proofs.YtdfnongjbddngaaW.PrintWords Go.Proofs.YtdfnongjbddngaaW.PrintLast
set_option linter.unusedSimpArgs false
set_option linter.unusedVariables false
open Go.Proofs.Ytdfnongjbddngaa.Com
def marksLine (x : Int) : Nat → List S48
  | 0 => []
  | d + 1 => ⟨x, x + 1, x + 2⟩ :: marksLine (x + 3) d
theorem marksLine_length (x : Int) (d : Nat) : (marksLine x d).length = d := by
  induction d generalizing x with
  | zero => rfl
  | succ d ih => simp [marksLine, ih]
theorem markLine_l0 (d : Nat) : ∀ (k : Nat) (i x : Int) (l : List S48), l.length ≤ 1099511627776 → 0 ≤ i → i + d = l.length → 0 ≤ x → x + 3 * d ≤ 4611686018427387904 → d < k →
    laws_markLineS.l0 k l x i = some (x + 3 * d, l.take i.toNat ++ marksLine x d) := by
  induction d with
  | zero =>
    intro k i x l hm h0 hi hx hb hk
    obtain ⟨k, rfl, _⟩ := succ_of_lt hk
    simp only [laws_markLineS.l0]
    rw [if_neg (by omega), List.take_of_length_le (by omega)]; simp [marksLine]
  | succ d ih =>
    intro k i x l hm h0 hi hx hb hk
    obtain ⟨k, rfl, hk⟩ := succ_of_lt hk
    have hlt : i.toNat < l.length := by omega
    simp only [laws_markLineS.l0]
    rw [if_pos (by omega), if_pos h0]
    have w1 : wrap64 (x + 1) = x + 1 := w64 (by omega) (by omega)
    have w2 : wrap64 (x + 1 + 1) = x + 2 := by rw [w64 (by omega) (by omega)]; omega
    have w3 : wrap64 (x + 2 + 1) = x + 3 := by rw [w64 (by omega) (by omega)]; omega
    have wi : wrap64 (i + 1) = i + 1 := w64 (by omega) (by omega)
    simp only [Option.bind_some, w1, w2, w3, wi, rd_T48, List.set_set, getD_set _ _ _ _ (show i.toNat < (l.set i.toNat _).length from by simpa using hlt), getD_set _ _ _ _ hlt]
    rw [ih k (i + 1) _ _ (by simpa using hm) (by omega) (by simpa using (by omega : i + 1 + (d : Int) = l.length)) (by omega) (by omega) (by omega)]
    rw [show (i + 1).toNat = i.toNat + 1 from by omega, set_take_succ _ _ _ hlt]
    simp only [marksLine, List.append_assoc, List.singleton_append]
    congr 2
    omega
theorem heldLine_l0 (d : Nat) : ∀ (k : Nat) (i x : Int) (l : List S48), l.length ≤ 1099511627776 → 0 ≤ i → i + d = l.length → 0 ≤ x → x + 3 * d ≤ 4611686018427387904 → l.drop i.toNat = marksLine x d → d < k →
    laws_heldLineS.l0 k l x i = some (x + 3 * d) := by
  induction d with
  | zero =>
    intro k i x l hm h0 hi hx hb hl hk
    obtain ⟨k, rfl, _⟩ := succ_of_lt hk
    simp only [laws_heldLineS.l0]
    rw [if_neg (by omega)]; simp
  | succ d ih =>
    intro k i x l hm h0 hi hx hb hl hk
    obtain ⟨k, rfl, hk⟩ := succ_of_lt hk
    have hlt : i.toNat < l.length := by omega
    rw [drop_cons l i.toNat z48 hlt] at hl
    simp only [marksLine, List.cons.injEq] at hl
    have w1 : wrap64 (x + 1) = x + 1 := w64 (by omega) (by omega)
    have w2 : wrap64 (x + 1 + 1) = x + 2 := by rw [w64 (by omega) (by omega)]; omega
    have w3 : wrap64 (x + 2 + 1) = x + 3 := by rw [w64 (by omega) (by omega)]; omega
    have wi : wrap64 (i + 1) = i + 1 := w64 (by omega) (by omega)
    simp only [laws_heldLineS.l0, rd_T48, hl.1, w1, w2, w3, wi, if_true]
    rw [if_pos (by omega), if_pos h0, ih k (i + 1) _ l hm (by omega) (by omega) (by omega) (by omega) (by rw [show (i + 1).toNat = i.toNat + 1 from by omega]; exact hl.2) (by omega)]
    congr 1
    omega
theorem markLine_eq (l : List S48) (hm : l.length ≤ 1099511627776) : Ev (fun k => laws_markLineS.f k l 1) (1 + 3 * (l.length : Int), marksLine 1 l.length) := by
  refine ⟨l.length + 1, fun k hk => ?_⟩
  dsimp only
  unfold laws_markLineS.f
  rw [markLine_l0 l.length k 0 1 l hm (by omega) (by omega) (by omega) (by omega) (by omega)]; simp
theorem heldLine_eq (n : Nat) (hm : n ≤ 1099511627776) : Ev (fun k => laws_heldLineS.f k (marksLine 1 n) 1) (1 + 3 * (n : Int)) := by
  refine ⟨n + 1, fun k hk => ?_⟩
  dsimp only
  unfold laws_heldLineS.f
  rw [heldLine_l0 n k 0 1 _ (by rw [marksLine_length]; exact hm) (by omega) (by rw [marksLine_length]; omega) (by omega) (by omega) (by simp) (by omega)]
end Go.Proofs.Ytdfnongjbddngaa.Pure
