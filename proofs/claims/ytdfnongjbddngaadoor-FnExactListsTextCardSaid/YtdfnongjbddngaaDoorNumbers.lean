/- What the texts of a row of numbers come to, the program's and the reference's; no condition but the row's length and that each number is one. -/
import Derived.Test.YtdfnongjbddngaaDoorText
import Derived.Test.YtdfnongjbddngaaDoorPF38
import Derived.Test.YtdfnongjbddngaaDoorPF16
import Derived.Test.YtdfnongjbddngaaDoorPF14
namespace Go.Proofs.YtdfnongjbddngaaDoor.Pure
open Go.RowKit Go.Proofs.YtdfnongjbddngaaDoor.P Go.Proofs.YtdfnongjbddngaaDoorW.PrintWords Go.Proofs.YtdfnongjbddngaaDoorW.PrintLast Go.Proofs.YtdfnongjbddngaaDoor.Com
set_option linter.unusedSimpArgs false
set_option linter.unusedVariables false

def commaJoin (l : List Int) : ByteArray := joinOf (l.map itoaB) (⟨#[44]⟩ : ByteArray)
def numText (l : List Int) : ByteArray := if l = [] then (⟨#[45]⟩ : ByteArray) else commaJoin l
theorem numJoin_len (l : List Int) (h : ∀ n ∈ l, I64 n) : (Lib.join (dl (l.map itoaB)) (⟨#[44]⟩ : ByteArray).data.toList).length ≤ 22 * l.length := by
  refine Nat.le_trans (join_len _ _ rfl) ?_
  have := sum_le (fun x => x.size + 1) 22 (l.map itoaB) (by
    intro x hx
    obtain ⟨n, hn, rfl⟩ := List.mem_map.1 hx
    have := itoaB_size n (h n hn)
    rw [ba_len]; omega)
  simpa using this
theorem take_more (l : List Int) (i : Int) (h0 : 0 ≤ i) (h : i.toNat < l.length) : (l.take i.toNat).map itoaB ++ [itoaB (rd l i)] = (l.take (i + 1).toNat).map itoaB := by
  rw [show (i + 1).toNat = i.toNat + 1 by omega, List.take_succ_eq_append_getElem h, List.map_append]
  simp [rd, List.getD, List.getElem?_eq_getElem h]
theorem rd_mem (l : List Int) (i : Int) (h : i.toNat < l.length) : rd l i ∈ l := getD_mem l i.toNat 0 h
theorem snum_l0 (l : List Int) (h : ∀ n ∈ l, I64 n) (hl : l.length ≤ 1099511627776) (d : Nat) : ∀ (k : Nat) (i : Int) (parts : List ByteArray), 0 ≤ i → i + d = l.length → parts = (l.take i.toNat).map itoaB → d + l.length + 40 ≤ k →
    spec_l31Numbers.l0 k l parts i = some (commaJoin l) := by
  induction d with
  | zero =>
    intro k i parts h0 hi hp hk
    obtain ⟨k, rfl⟩ : ∃ m, k = m + 1 := ⟨k - 1, by omega⟩
    simp only [spec_l31Numbers.l0]
    rw [List.take_of_length_le (by omega)] at hp
    have := numJoin_len l h
    rw [if_neg (by omega), hp, join_eq k _ _ (by simpa using hl) (by simp; omega) (by omega)]
    rfl
  | succ d ih =>
    intro k i parts h0 hi hp hk
    obtain ⟨k, rfl⟩ : ∃ m, k = m + 1 := ⟨k - 1, by omega⟩
    have hlt : i.toNat < l.length := by omega
    simp only [spec_l31Numbers.l0]
    rw [if_pos (by omega), if_pos h0, fmt_eq k _ (h _ (rd_mem l i hlt)) (by omega), Option.bind_some, if_pos (by rw [hp, List.length_map, List.length_take]; omega), w64 (by omega) (by omega),
      ih k (i + 1) _ (by omega) (by omega) (by rw [hp, take_more l i h0 hlt]) (by omega)]
theorem snum_eq (l : List Int) (h : ∀ n ∈ l, I64 n) (hl : l.length ≤ 1099511627776) (k : Nat) (hk : 2 * l.length + 60 ≤ k) : spec_l31Numbers.f k l = some (commaJoin l) := by
  unfold spec_l31Numbers.f
  exact snum_l0 l h hl l.length k 0 [] (by omega) (by omega) rfl (by omega)
theorem inum_l0 (l : List Int) (h : ∀ n ∈ l, I64 n) (hl : l.length ≤ 1099511627776) (d : Nat) : ∀ (k : Nat) (i : Int) (parts : List ByteArray), 0 ≤ i → i + d = l.length → parts = (l.take i.toNat).map itoaB → d < k →
    impl_NumbersText.l0 k parts l (l.length : Int) i = some (commaJoin l) := by
  induction d with
  | zero =>
    intro k i parts h0 hi hp hk
    obtain ⟨k, rfl, _⟩ := succ_of_lt hk
    simp only [impl_NumbersText.l0]
    rw [List.take_of_length_le (by omega)] at hp
    have := numJoin_len l h
    rw [if_neg (by omega), hp, ijoin_eq _ _ (by simpa using hl) (by omega)]
    rfl
  | succ d ih =>
    intro k i parts h0 hi hp hk
    obtain ⟨k, rfl, _⟩ := succ_of_lt hk
    have hlt : i.toNat < l.length := by omega
    simp only [impl_NumbersText.l0]
    rw [if_pos (by omega), if_pos h0, if_pos (by omega), ifmt_eq _ (h _ (rd_mem l i hlt)), Option.bind_some, if_pos (by rw [hp, List.length_map, List.length_take]; omega), w64 (by omega) (by omega),
      ih k (i + 1) _ (by omega) (by omega) (by rw [hp, take_more l i h0 hlt]) (by omega)]
theorem inumText_eq (l : List Int) (h : ∀ n ∈ l, I64 n) (hl : l.length ≤ 1099511627776) (k : Nat) (hk : l.length < k) : impl_NumbersText.f k l = some (numText l) := by
  unfold impl_NumbersText.f numText
  cases l with
  | nil => rfl
  | cons x r =>
    rw [if_neg (by simp only [List.length_cons]; omega), if_neg (by simp)]
    exact inum_l0 (x :: r) h hl (x :: r).length k 0 [] (by omega) (by omega) rfl hk
theorem snumText_eq (l : List Int) (h : ∀ n ∈ l, I64 n) (hl : l.length ≤ 1099511627776) (k : Nat) (hk : 2 * l.length + 60 ≤ k) : spec_NumbersText.f k l = some (numText l) := by
  unfold spec_NumbersText.f numText
  cases l with
  | nil => rfl
  | cons x r =>
    rw [if_neg (by simp only [List.length_cons]; omega), if_neg (by simp), snum_eq _ h hl k hk]; rfl
theorem numText_size (l : List Int) (h : ∀ n ∈ l, I64 n) : (numText l).size ≤ 22 * l.length + 1 := by
  unfold numText
  split
  · show 1 ≤ _; omega
  · have := numJoin_len l h
    unfold commaJoin joinOf
    rw [ba_size]
    show (Lib.join (dl _) _).length ≤ _
    omega
theorem i64_of_wf {n : Int} (h : (Lit.int .i64 n).wf = true) : I64 n := by
  simp only [Lit.wf, IntKind.min, IntKind.max, IntKind.signed, IntKind.bits, Bool.and_eq_true, decide_eq_true_eq, if_true] at h
  unfold I64; omega
end Go.Proofs.YtdfnongjbddngaaDoor.Pure
