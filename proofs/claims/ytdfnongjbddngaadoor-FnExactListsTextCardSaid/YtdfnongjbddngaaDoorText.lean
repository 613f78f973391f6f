/- What the reference's numerals, its joining and the texts of rows of numbers come to; no condition but lengths. -/
import Derived.Test.YtdfnongjbddngaaDoorCom
import Derived.Lib.ItoaLen
import Derived.Test.YtdfnongjbddngaaDoorPF34
import Derived.Test.YtdfnongjbddngaaDoorPF41
import Derived.Test.YtdfnongjbddngaaDoorPF48
import Derived.Test.YtdfnongjbddngaaDoorPF37
import Derived.Test.YtdfnongjbddngaaDoorPF39
namespace Go.Proofs.YtdfnongjbddngaaDoor.Pure
open Go.RowKit Go.Proofs.YtdfnongjbddngaaDoor.P Go.Proofs.YtdfnongjbddngaaDoorW.PrintWords Go.Proofs.YtdfnongjbddngaaDoorW.PrintLast Go.Proofs.YtdfnongjbddngaaDoor.Com
set_option linter.unusedSimpArgs false
set_option linter.unusedVariables false

theorem ba_append (a b : List UInt8) : (⟨a.toArray⟩ : ByteArray) ++ (⟨b.toArray⟩ : ByteArray) = ⟨(a ++ b).toArray⟩ := by
  apply ByteArray.ext; simp [ByteArray.data_append]
theorem ba_size (a : List UInt8) : (⟨a.toArray⟩ : ByteArray).size = a.length := by simp [ByteArray.size]
theorem ba_eta (s : ByteArray) : s = ⟨s.data.toList.toArray⟩ := by apply ByteArray.ext; simp
/-- The digits of a number, none for nought. -/
def dgs (u : Nat) : List UInt8 := if u = 0 then [] else Lib.decDigits u
theorem dgs_step (u : Nat) (h : 0 < u) : dgs u = dgs (u / 10) ++ [UInt8.ofNat (48 + u % 10)] := by
  unfold dgs
  rw [if_neg (by omega)]
  by_cases h1 : u < 10
  · rw [if_pos (by omega), Lib.decDigits_one h1, Nat.mod_eq_of_lt h1]; rfl
  · rw [if_neg (by omega), Lib.decDigits, dif_neg h1]
theorem tdiv_abs (x : Int) : (Int.tdiv x 10).natAbs = x.natAbs / 10 := by
  rw [Int.natAbs_tdiv]; rfl
theorem tmod_cases (x : Int) : (Int.tmod x 10 < 0 ∧ -(Int.tmod x 10) = ((x.natAbs % 10 : Nat) : Int)) ∨ (¬ Int.tmod x 10 < 0 ∧ Int.tmod x 10 = ((x.natAbs % 10 : Nat) : Int)) := by
  have h := Int.natAbs_tmod x 10
  have h10 : (10 : Int).natAbs = 10 := rfl
  rw [h10] at h
  omega
theorem digit_str (d : Nat) (h : d < 10) : strOfNums [wrap64 (48 + (d : Int)) % 256] = ⟨[UInt8.ofNat (48 + d)].toArray⟩ := by
  unfold strOfNums
  have e : (wrap64 (48 + (d : Int)) % 256).toNat = 48 + d := by unfold wrap64; omega
  simp [e]
theorem fmt_l0 (n : Nat) : ∀ (k : Nat) (x : Int) (neg : Bool) (acc : List UInt8), x.natAbs < 10 ^ n → n < k → -9223372036854775808 ≤ x → x ≤ 9223372036854775807 → acc.length + n ≤ 1000 →
    spec_FormatInt.l0 k x neg ⟨acc.toArray⟩ = some ⟨((if neg = true then [45] else []) ++ (dgs x.natAbs ++ acc)).toArray⟩ := by
  have fin : ∀ (k : Nat) (neg : Bool) (acc : List UInt8), acc.length ≤ 1000 → spec_FormatInt.l0 (k + 1) 0 neg ⟨acc.toArray⟩ = some ⟨((if neg = true then [45] else []) ++ (dgs (0 : Int).natAbs ++ acc)).toArray⟩ := by
    intro k neg acc ha
    simp only [spec_FormatInt.l0]
    rw [if_pos trivial]
    cases neg with
    | false => rw [if_neg (by decide)]; simp [dgs]
    | true =>
      rw [if_pos rfl, if_pos (by rw [ba_size]; omega), show (⟨#[45]⟩ : ByteArray) = ⟨[45].toArray⟩ from rfl, ba_append]; simp [dgs]
  induction n with
  | zero =>
    intro k x neg acc hx hk _ _ ha
    obtain ⟨k, rfl, _⟩ := succ_of_lt hk
    obtain rfl : x = 0 := by simp at hx; omega
    exact fin k neg acc (by omega)
  | succ n ih =>
    intro k x neg acc hx hk h0 h1 ha
    obtain ⟨k, rfl, hk⟩ := succ_of_lt hk
    by_cases hz : x = 0
    · subst hz; exact fin k neg acc (by omega)
    · have hq : (Int.tdiv x 10).natAbs < 10 ^ n := by rw [tdiv_abs]; rw [Nat.pow_succ] at hx; omega
      have hw : wrap64 (Int.tdiv x 10) = Int.tdiv x 10 := by
        have := tdiv_abs x
        unfold wrap64; omega
      have hb : -9223372036854775808 ≤ Int.tdiv x 10 ∧ Int.tdiv x 10 ≤ 9223372036854775807 := by
        have := tdiv_abs x
        omega
      have hd : x.natAbs % 10 < 10 := Nat.mod_lt _ (by decide)
      have hs : dgs x.natAbs = dgs (Int.tdiv x 10).natAbs ++ [UInt8.ofNat (48 + x.natAbs % 10)] := by rw [tdiv_abs]; exact dgs_step _ (by omega)
      have key : (some ([wrap64 (48 + ((x.natAbs % 10 : Nat) : Int)) % 256] : List Int)).bind (fun y => if (strOfNums y).size + (⟨acc.toArray⟩ : ByteArray).size ≤ 9223372036854775807 then spec_FormatInt.l0 k (wrap64 (Int.tdiv x 10)) neg (strOfNums y ++ ⟨acc.toArray⟩) else none) = some ⟨((if neg = true then [45] else []) ++ (dgs x.natAbs ++ acc)).toArray⟩ := by
        rw [Option.bind_some, digit_str _ hd, if_pos (by rw [ba_size, ba_size]; simp only [List.length_cons, List.length_nil]; omega), ba_append, hw, ih k _ neg _ hq (by omega) hb.1 hb.2 (by simp only [List.length_append, List.length_cons, List.length_nil]; omega), hs]
        simp
      simp only [spec_FormatInt.l0]
      rw [if_neg hz]
      rcases tmod_cases x with ⟨c, e⟩ | ⟨c, e⟩
      · rw [if_pos c, e, w64 (x := ((x.natAbs % 10 : Nat) : Int)) (by omega) (by omega)]
        exact key
      · rw [if_neg c, e]
        exact key
/-- A number's numeral. -/
def itoaB (n : Int) : ByteArray := ⟨(Lib.itoa n).toArray⟩
def I64 (n : Int) : Prop := -9223372036854775808 ≤ n ∧ n ≤ 9223372036854775807
theorem fmt_eq (k : Nat) (n : Int) (h : I64 n) (hk : 30 ≤ k) : spec_FormatInt.f k n = some (itoaB n) := by
  unfold spec_FormatInt.f
  by_cases hz : n = 0
  · subst hz
    rw [if_pos rfl]
    unfold itoaB Lib.itoa
    rw [if_neg (by decide), Lib.decDigits_one (by decide)]; rfl
  · rw [if_neg hz, show (⟨#[]⟩ : ByteArray) = ⟨[].toArray⟩ from rfl, fmt_l0 20 k n _ [] (by unfold I64 at h; omega) (by omega) h.1 h.2 (by simp)]
    unfold itoaB Lib.itoa
    have e : dgs n.natAbs = Lib.decDigits n.natAbs := by unfold dgs; rw [if_neg (by omega)]
    by_cases hn : n < 0
    · simp [hn, e]
    · rw [if_neg hn]
      have : n.toNat = n.natAbs := by omega
      simp [hn, e, this]
theorem itoaB_size (n : Int) (h : I64 n) : (itoaB n).data.toList.length ≤ 21 := by
  have := Lib.itoa_length_le n h.1 h.2
  simpa [itoaB] using this
theorem ifmt_eq (n : Int) (h : I64 n) : impl_FormatInt.f n = some (itoaB n) := by
  unfold impl_FormatInt.f; rw [itoa_some n h.1 h.2]; rfl

/-! Joining -/
def nb (l : List UInt8) : List Int := l.map fun b => (b.toNat : Int)
theorem nb_append (a b : List UInt8) : nb a ++ nb b = nb (a ++ b) := by simp [nb]
theorem nb_length (a : List UInt8) : (nb a).length = a.length := by simp [nb]
theorem nb_str (a : List UInt8) : strOfNums (nb a) = ⟨a.toArray⟩ := by
  unfold strOfNums nb
  rw [List.map_map]
  congr 2
  conv => rhs; rw [← List.map_id a]
  apply List.map_congr_left
  intro b _
  simp
theorem bytesOf_nb (s : ByteArray) : bytesOf s = nb s.data.toList := rfl
theorem ba_len (s : ByteArray) : s.size = s.data.toList.length := by rw [data_length]
abbrev dl (l : List ByteArray) : List (List UInt8) := l.map (·.data.toList)
theorem joinTail_cons (s x : List UInt8) (r : List (List UInt8)) : Lib.joinTail s (x :: r) = s ++ x ++ Lib.joinTail s r := by simp [Lib.joinTail]
theorem join_tail (l : List ByteArray) (sep : ByteArray) (hl : l.length ≤ 1099511627776) (d : Nat) : ∀ (k : Nat) (i : Int) (acc : List UInt8), 0 < i → i + d = l.length → d < k →
    acc.length + (Lib.joinTail sep.data.toList (dl (l.drop i.toNat))).length < 140737488355328 →
    spec_Join.l0 k l sep (nb acc) i = some ⟨(acc ++ Lib.joinTail sep.data.toList (dl (l.drop i.toNat))).toArray⟩ := by
  induction d with
  | zero =>
    intro k i acc h0 hi hk hb
    obtain ⟨k, rfl, _⟩ := succ_of_lt hk
    simp only [spec_Join.l0]
    rw [if_neg (by omega), nb_str, List.drop_of_length_le (by omega)]; simp [Lib.joinTail]
  | succ d ih =>
    intro k i acc h0 hi hk hb
    obtain ⟨k, rfl, hk⟩ := succ_of_lt hk
    have hlt : i.toNat < l.length := by omega
    have hdrop := drop_cons l i.toNat ByteArray.empty hlt
    have hr : rdOf ByteArray.empty l i = l.getD i.toNat ByteArray.empty := rfl
    rw [hdrop] at hb ⊢
    generalize hx : l.getD i.toNat ByteArray.empty = x at hb hr ⊢
    have hj : dl (x :: l.drop (i.toNat + 1)) = x.data.toList :: dl (l.drop (i.toNat + 1)) := rfl
    rw [hj, joinTail_cons] at hb ⊢
    simp only [List.length_append] at hb
    simp only [spec_Join.l0]
    rw [if_pos (by omega), if_pos (by omega), if_pos (by rw [nb_length, ba_len]; omega), Option.bind_some, if_pos (by omega), hr, bytesOf_nb, nb_append, if_pos (by rw [nb_length, ba_len, List.length_append]; omega), bytesOf_nb, nb_append, w64 (by omega) (by omega),
      ih k (i + 1) _ (by omega) (by omega) (by omega) (by rw [show (i + 1).toNat = i.toNat + 1 by omega]; simp only [List.length_append]; omega), show (i + 1).toNat = i.toNat + 1 by omega]
    simp [List.append_assoc]
theorem join_eq (k : Nat) (l : List ByteArray) (sep : ByteArray) (hl : l.length ≤ 1099511627776) (hk : l.length < k) (hb : (Lib.join (dl l) sep.data.toList).length < 140737488355328) :
    spec_Join.f k l sep = some (joinOf l sep) := by
  unfold spec_Join.f joinOf
  obtain ⟨k, rfl, hk⟩ := succ_of_lt hk
  cases l with
  | nil =>
    simp only [spec_Join.l0]
    rw [if_neg (by simp)]; rfl
  | cons x r =>
    have hj : dl (x :: r) = x.data.toList :: dl r := rfl
    rw [hj, Lib.join_cons, List.length_append] at hb
    have hm : (x :: r).map (·.data.toList) = x.data.toList :: dl r := rfl
    rw [hm, Lib.join_cons]
    simp only [spec_Join.l0]
    have hr : rdOf ByteArray.empty (x :: r) 0 = x := rfl
    have hn : ([] : List Int) = nb [] := rfl
    rw [if_pos (by simp only [List.length_cons]; omega), if_neg (by decide), if_pos (by decide), hr, if_pos (by rw [ba_len]; simp only [List.length_nil]; omega), bytesOf_nb, List.nil_append, show wrap64 (0 + 1) = 1 from w64 (by decide) (by decide)]
    have := join_tail (x :: r) sep hl r.length k 1 x.data.toList (by decide) (by simp; omega) (by simpa using hk) (by show _ + (Lib.joinTail _ (dl r)).length < _; omega)
    rw [this]; rfl
theorem ijoin_eq (l : List ByteArray) (sep : ByteArray) (hl : l.length ≤ 1099511627776) (hb : (Lib.join (dl l) sep.data.toList).length < 140737488355328) : impl_Join.f l sep = some (joinOf l sep) := by
  unfold impl_Join.f; rw [joinOf_some l sep (by omega) (by show (Lib.join (dl l) _).length ≤ _; omega)]; rfl
/-- How long a joining is. -/
theorem join_len (L : List ByteArray) (s : ByteArray) (hs : s.size = 1) : (Lib.join (dl L) s.data.toList).length ≤ (L.map fun x => x.size + 1).sum := by
  cases L with
  | nil => simp [Lib.join, List.intercalate]
  | cons x r =>
    have hj : dl (x :: r) = x.data.toList :: dl r := rfl
    rw [hj, Lib.join_cons, List.length_append, Lib.joinTail_length, show s.data.toList.length = 1 by rw [data_length, hs], data_length]
    have : Lib.lens (dl r) + (dl r).length ≤ (r.map fun x => x.size + 1).sum := by
      clear hj
      induction r with
      | nil => simp [Lib.lens]
      | cons y r ih =>
        have e1 : Lib.lens (dl (y :: r)) = y.size + Lib.lens (dl r) := by simp [Lib.lens, dl, data_length]
        have e2 : (dl (y :: r)).length = (dl r).length + 1 := by simp [dl]
        rw [e1, e2, List.map_cons, List.sum_cons]; omega
    rw [List.map_cons, List.sum_cons]; omega
theorem sum_le (f : ByteArray → Nat) (m : Nat) : ∀ L : List ByteArray, (∀ x ∈ L, f x ≤ m) → (L.map f).sum ≤ m * L.length
  | [], _ => by simp
  | x :: L, h => by
    have := sum_le f m L (fun y hy => h y (by simp [hy]))
    have := h x (by simp)
    rw [List.map_cons, List.sum_cons, List.length_cons, Nat.mul_succ]; omega
end Go.Proofs.YtdfnongjbddngaaDoor.Pure
