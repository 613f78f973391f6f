/- What the text of rows of numbers comes to, the program's and the reference's, and the laws' helpers for rows of rows; no condition but lengths and that each number is one. -/
import Derived.Test.YtdfnongjbddngaaDoorNumbers
import Derived.Test.YtdfnongjbddngaaDoorComInt
import Derived.Test.YtdfnongjbddngaaDoorPF18
import Derived.Test.YtdfnongjbddngaaDoorPF20
import Derived.Test.YtdfnongjbddngaaDoorPF22
import Derived.Test.YtdfnongjbddngaaDoorPF19
import Derived.Test.YtdfnongjbddngaaDoorPF21
namespace Go.Proofs.YtdfnongjbddngaaDoor.Pure
open Go.RowKit Go.Proofs.YtdfnongjbddngaaDoor.P Go.Proofs.YtdfnongjbddngaaDoorW.PrintWords Go.Proofs.YtdfnongjbddngaaDoorW.PrintLast Go.Proofs.YtdfnongjbddngaaDoor.Com
set_option linter.unusedSimpArgs false
set_option linter.unusedVariables false

def tot (L : List (List Int)) : Nat := (L.map List.length).sum
theorem tot_cons (l : List Int) (L : List (List Int)) : tot (l :: L) = l.length + tot L := by simp [tot]
theorem tot_mem (L : List (List Int)) : ∀ l ∈ L, l.length ≤ tot L := by
  induction L with
  | nil => simp
  | cons x L ih =>
    intro l hl
    rw [tot_cons]
    rcases List.mem_cons.1 hl with rfl | hl
    · omega
    · have := ih l hl; omega
theorem rdL_is (L : List (List Int)) (i : Int) : rd_L5 L i = L.getD i.toNat [] := rfl
theorem rdL_mem (L : List (List Int)) (i : Int) (h : i.toNat < L.length) : rd_L5 L i ∈ L := getD_mem L i.toNat [] h
/-- The reference's bound on rows of rows: where it is no longer positive the rows are many. -/
theorem sz_l0 (L : List (List Int)) (hL : L.length ≤ 9223372036854775807) (hs : ∀ l ∈ L, l.length ≤ 9223372036854775807) (d : Nat) : ∀ (i a : Int), 0 ≤ i → i + d = L.length → 0 ≤ a → a ≤ 1048576 →
    ∃ t, Ev (fun k => laws_szIntSS.l0 k L a i) t ∧ (t < 0 ∨ a = t + (tot (L.drop i.toNat) : Int)) := by
  induction d with
  | zero =>
    intro i a h0 hi ha hb
    refine ⟨a, Ev.step (f := fun _ => some a) (fun q => by simp only [laws_szIntSS.l0]; rw [if_neg (by omega)]) (Ev.now a), .inr ?_⟩
    rw [List.drop_of_length_le (by omega)]; simp [tot]
  | succ d ih =>
    intro i a h0 hi ha hb
    have hlt : i.toNat < L.length := by omega
    have hm := hs _ (rdL_mem L i hlt)
    have hr := rdL_is L i
    have hd := drop_cons L i.toNat [] hlt
    rw [← hr] at hd
    generalize rd_L5 L i = x at hm hr hd
    have hsz : laws_szIntS.f x a = if wrap64 (a - (x.length : Int)) < 0 then some (-1) else some (wrap64 (a - (x.length : Int))) := rfl
    rw [w64 (by omega) (by omega)] at hsz
    by_cases c : a - (x.length : Int) < 0
    · rw [if_pos c] at hsz
      refine ⟨-1, Ev.step (f := fun _ => some (-1)) (fun q => ?_) (Ev.now _), .inl (by decide)⟩
      simp only [laws_szIntSS.l0]
      rw [if_pos (by omega), if_pos h0, rdL_is, ← hr, hsz, Option.bind_some, if_pos (by decide)]
    · rw [if_neg c] at hsz
      obtain ⟨t, ht, hor⟩ := ih (i + 1) (a - (x.length : Int)) (by omega) (by omega) (by omega) (by omega)
      refine ⟨t, Ev.step (fun q => ?_) ht, ?_⟩
      · simp only [laws_szIntSS.l0]
        rw [if_pos (by omega), if_pos h0, rdL_is, ← hr, hsz, Option.bind_some, if_neg c, w64 (x := i + 1) (by omega) (by omega)]
      · rcases hor with h | h
        · exact .inl h
        · refine .inr ?_
          rw [hd, tot_cons]
          rw [show (i + 1).toNat = i.toNat + 1 by omega] at h
          omega
theorem sz_eq (L : List (List Int)) (hL : L.length ≤ 9223372036854775807) (hs : ∀ l ∈ L, l.length ≤ 9223372036854775807) : ∃ t, Ev (fun k => laws_szIntSS.f k L 1048576) t ∧ (t < 0 ∨ L.length + tot L ≤ 1048576) := by
  unfold laws_szIntSS.f
  rw [w64 (by omega) (by omega)]
  by_cases c : (1048576 : Int) - (L.length : Int) < 0
  · exact ⟨-1, Ev.iteT c (Ev.now _), .inl (by decide)⟩
  · obtain ⟨t, ht, hor⟩ := sz_l0 L hL hs L.length 0 (1048576 - (L.length : Int)) (by omega) (by omega) (by omega) (by omega)
    refine ⟨t, Ev.iteF c ht, ?_⟩
    rcases hor with h | h
    · exact .inl h
    · by_cases ht0 : t < 0
      · exact .inl ht0
      · refine .inr ?_
        simp only [Int.toNat_zero, List.drop_zero] at h
        omega
theorem toIntSS_l0 (L : List (List Int)) (hL : L.length ≤ 1048576) (hs : ∀ l ∈ L, l.length ≤ 1048576) (d : Nat) : ∀ (i : Int) (out : List (List Int)), 0 ≤ i → i + d = L.length → out.length = L.length →
    Ev (fun k => laws_toIntSS.l0 k L out i) (out.take i.toNat ++ L.drop i.toNat) := by
  induction d with
  | zero =>
    intro i out h0 hi ho
    refine Ev.step (f := fun _ => some (out.take i.toNat ++ L.drop i.toNat)) (fun q => ?_) (Ev.now _)
    simp only [laws_toIntSS.l0]
    rw [if_neg (by omega), List.take_of_length_le (by omega), List.drop_of_length_le (by omega)]; simp
  | succ d ih =>
    intro i out h0 hi ho
    have hlt : i.toNat < L.length := by omega
    refine Ev.step (f := fun k => (laws_toIntS.f k (rd_L5 L i)).bind fun t => laws_toIntSS.l0 k L (out.set i.toNat t) (i + 1)) (fun q => ?_) ?_
    · simp only [laws_toIntSS.l0]
      rw [if_pos (by omega), if_pos h0]
      congr 1
      funext t
      rw [if_pos (by omega), w64 (by omega) (by omega)]
    · refine Ev.bind (toIntS_eq _ (hs _ (rdL_mem L i hlt))) ?_
      have := ih (i + 1) (out.set i.toNat (rd_L5 L i)) (by omega) (by omega) (by simpa using ho)
      rw [show (i + 1).toNat = i.toNat + 1 by omega, set_take_succ _ _ _ (by omega)] at this
      rw [drop_cons L i.toNat [] hlt]
      simpa [rdL_is] using this
theorem toIntSS_eq (L : List (List Int)) (hL : L.length ≤ 1048576) (hs : ∀ l ∈ L, l.length ≤ 1048576) : Ev (fun k => laws_toIntSS.f k L) L := by
  unfold laws_toIntSS.f
  refine Ev.iteT (by omega) (Ev.iteT (by omega) ?_)
  have := toIntSS_l0 L hL hs L.length 0 (List.replicate ((L.length : Int)).toNat []) (by omega) (by omega) (by simp)
  simpa using this
theorem eqIntSS_same (L : List (List Int)) (hL : L.length ≤ 1048576) (hs : ∀ l ∈ L, l.length ≤ 1048576) : Ev (fun k => laws_eqIntSS.f k L L) true := by
  have key : ∀ (d : Nat) (i : Int), 0 ≤ i → i + d = L.length → Ev (fun k => laws_eqIntSS.l0 k L L i) true := by
    intro d
    induction d with
    | zero =>
      intro i h0 hi
      refine Ev.step (f := fun _ => some true) (fun q => ?_) (Ev.now _)
      simp only [laws_eqIntSS.l0]
      rw [if_neg (by omega)]
    | succ d ih =>
      intro i h0 hi
      have hlt : i.toNat < L.length := by omega
      refine Ev.step (f := fun k => (laws_eqIntS.f k (rd_L5 L i) (rd_L5 L i)).bind fun t => if t = true then laws_eqIntSS.l0 k L L (i + 1) else some false) (fun q => ?_) ?_
      · simp only [laws_eqIntSS.l0]
        rw [if_pos (by omega), if_pos h0, if_pos (by omega), w64 (by omega) (by omega)]
      · exact Ev.bind (eqIntS_refl _ (Nat.le_trans (hs _ (rdL_mem L i hlt)) (by decide))) (Ev.iteT rfl (ih (i + 1) (by omega) (by omega)))
  unfold laws_eqIntSS.f
  exact Ev.iteT rfl (key L.length 0 (by omega) (by omega))

/-! The text of rows -/
def rowsText (L : List (List Int)) : ByteArray := if L = [] then (⟨#[45]⟩ : ByteArray) else joinOf (L.map numText) (⟨#[32]⟩ : ByteArray)
theorem rowsJoin_len (L : List (List Int)) (h : ∀ l ∈ L, ∀ n ∈ l, I64 n) : (Lib.join (dl (L.map numText)) (⟨#[32]⟩ : ByteArray).data.toList).length ≤ 22 * tot L + 2 * L.length := by
  refine Nat.le_trans (join_len _ _ rfl) ?_
  induction L with
  | nil => simp [tot]
  | cons l L ih =>
    have h1 := numText_size l (h l (by simp))
    have h2 := ih (fun x hx => h x (by simp [hx]))
    rw [List.map_cons, List.map_cons, List.sum_cons, tot_cons, List.length_cons]
    omega
theorem takeT_more (L : List (List Int)) (i : Int) (h0 : 0 ≤ i) (h : i.toNat < L.length) : (L.take i.toNat).map numText ++ [numText (rd_L5 L i)] = (L.take (i + 1).toNat).map numText := by
  rw [show (i + 1).toNat = i.toNat + 1 by omega, List.take_succ_eq_append_getElem h, List.map_append]
  simp [rdL_is, List.getD, List.getElem?_eq_getElem h]
section
variable (L : List (List Int)) (h : ∀ l ∈ L, ∀ n ∈ l, I64 n) (hT : L.length + tot L ≤ 1048576)
include h hT
theorem srows_l0 (d : Nat) : ∀ (k : Nat) (i : Int) (parts : List ByteArray), 0 ≤ i → i + d = L.length → parts = (L.take i.toNat).map numText → d + L.length + 2 * tot L + 100 ≤ k →
    spec_ListsText.l0 k L parts i = some (rowsText L) := by
  induction d with
  | zero =>
    intro k i parts h0 hi hp hk
    obtain ⟨k, rfl⟩ : ∃ m, k = m + 1 := ⟨k - 1, by omega⟩
    simp only [spec_ListsText.l0]
    rw [List.take_of_length_le (by omega)] at hp
    have := rowsJoin_len L h
    rw [if_neg (by omega)]
    unfold rowsText
    cases L with
    | nil => rw [if_pos (by rw [hp]; rfl), if_pos rfl]
    | cons l R =>
      rw [if_neg (by rw [hp]; simp only [List.map_cons, List.length_cons]; omega), if_neg (by simp), hp, join_eq k _ _ (by rw [List.length_map]; omega) (by rw [List.length_map]; omega) (by omega)]
      rfl
  | succ d ih =>
    intro k i parts h0 hi hp hk
    obtain ⟨k, rfl⟩ : ∃ m, k = m + 1 := ⟨k - 1, by omega⟩
    have hlt : i.toNat < L.length := by omega
    have hm := tot_mem L _ (rdL_mem L i hlt)
    simp only [spec_ListsText.l0]
    rw [if_pos (by omega), if_pos h0, snumText_eq _ (h _ (rdL_mem L i hlt)) (by omega) k (by omega), Option.bind_some, if_pos (by rw [hp, List.length_map, List.length_take]; omega), w64 (by omega) (by omega),
      ih k (i + 1) _ (by omega) (by omega) (by rw [hp, takeT_more L i h0 hlt]) (by omega)]
theorem srows_eq : Ev (fun k => spec_ListsText.f k L) (rowsText L) := by
  refine Ev.from (2 * L.length + 2 * tot L + 100) (fun k hk => ?_)
  unfold spec_ListsText.f
  exact srows_l0 L h hT L.length k 0 [] (by omega) (by omega) rfl (by omega)
theorem irows_l0 (hne : L ≠ []) (d : Nat) : ∀ (k : Nat) (i : Int) (parts : List ByteArray), 0 ≤ i → i + d = L.length → parts = (L.take i.toNat).map numText → d + tot L + 10 ≤ k →
    impl_ListsText.l0 k parts L (L.length : Int) i = some (rowsText L) := by
  induction d with
  | zero =>
    intro k i parts h0 hi hp hk
    obtain ⟨k, rfl⟩ : ∃ m, k = m + 1 := ⟨k - 1, by omega⟩
    simp only [impl_ListsText.l0]
    rw [List.take_of_length_le (by omega)] at hp
    have := rowsJoin_len L h
    unfold rowsText
    rw [if_neg (by omega), if_neg hne, hp, ijoin_eq _ _ (by rw [List.length_map]; omega) (by omega)]
    rfl
  | succ d ih =>
    intro k i parts h0 hi hp hk
    obtain ⟨k, rfl⟩ : ∃ m, k = m + 1 := ⟨k - 1, by omega⟩
    have hlt : i.toNat < L.length := by omega
    have hm := tot_mem L _ (rdL_mem L i hlt)
    simp only [impl_ListsText.l0]
    rw [if_pos (by omega), if_pos h0, if_pos (by omega), inumText_eq _ (h _ (rdL_mem L i hlt)) (by omega) k (by omega), Option.bind_some, if_pos (by rw [hp, List.length_map, List.length_take]; omega), w64 (by omega) (by omega),
      ih k (i + 1) _ (by omega) (by omega) (by rw [hp, takeT_more L i h0 hlt]) (by omega)]
theorem irows_eq : Ev (fun k => impl_ListsText.f k L) (rowsText L) := by
  refine Ev.from (L.length + tot L + 20) (fun k hk => ?_)
  unfold impl_ListsText.f
  cases hL : L with
  | nil => rfl
  | cons x R =>
    rw [if_neg (by simp only [List.length_cons]; omega), ← hL]
    exact irows_l0 L h hT (by rw [hL]; simp) L.length k 0 [] (by omega) (by omega) rfl (by omega)
end
end Go.Proofs.YtdfnongjbddngaaDoor.Pure
