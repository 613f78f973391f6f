-- Written by a program of this session (wip/tools/pmore.py) for this claim; Lean checks it.
import Derived.Test.YtdfnongjbddngaaDoorP0
import Derived.Test.YtdfnongjbddngaaDoorShelf
namespace Go.Proofs.YtdfnongjbddngaaDoor.P
open Go.RowKit Go.Proofs.YtdfnongjbddngaaDoorW.PrintWords Go.Proofs.YtdfnongjbddngaaDoorW.PrintLast Go.Proofs.YtdfnongjbddngaaDoorW.PrintMore
attribute [local go_sem] max2_int min2_int max_two min_two max_three min_three max_four min_four   -- for this text's walks alone
set_option linter.unusedVariables false
set_option linter.unusedSimpArgs false

/-! ### strings_Join: function 48 -/
/-- The elements with the separator between them. -/
def joinOf (l : List ByteArray) (sep : ByteArray) : ByteArray := ⟨(Lib.join (l.map (·.data.toList)) sep.data.toList).toArray⟩
def strings_Join.f (l0 : List ByteArray) (a1 : ByteArray) : Option ByteArray := if l0.length ≤ 140737488355328 ∧ (Lib.join (l0.map (·.data.toList)) a1.data.toList).length ≤ 140737488355328 then some (joinOf l0 a1) else none
theorem strings_Join.calls (A0 : Option Addr) (c0 : Nat) (l0 : List ByteArray) (a1 : ByteArray) (r : ByteArray) (w : World) (hr0 : Kd.C Kd.string w A0 l0.length l0) (hc0 : l0.length ≤ c0) (h : strings_Join.f l0 a1 = some r) :
    Calls Tryd.prog 48 #[.slice A0 l0.length c0, .string a1] w fun e w' => e = .returned (.string r) ∧ Below w.heap.size w w' := by
  unfold strings_Join.f at h
  split at h
  · rename_i hb
    obtain rfl := Option.some.inj h
    rcases Nat.eq_zero_or_pos l0.length with hl | hl
    · obtain rfl := List.eq_nil_of_length_eq_zero hl
      refine (Tryd.strings_Join_none A0 c0 a1 w).mono ?_
      rintro e w' ⟨rfl, rfl⟩
      exact ⟨rfl, Below.refl _ _⟩
    · obtain ⟨ad, rfl, _⟩ := Kd.at_string hr0 0 (Int.le_refl 0) (by omega)
      have hcell : ∀ (j : Nat) x, l0[j]? = some x → w.cell? (ad.add j) = some (.string x) := by
        intro j x hx
        have hj : j < l0.length := (List.getElem?_eq_some_iff.1 hx).1
        obtain ⟨ad', e, hc⟩ := Kd.at_string hr0 (j : Int) (by omega) (by omega)
        cases e
        rw [Int.toNat_natCast] at hc
        rw [hc]
        unfold rdOf
        rw [Int.toNat_natCast, List.getD_eq_getElem?_getD, hx]; rfl
      have h0 := hcell 0 l0[0] (List.getElem?_eq_getElem hl)
      obtain ⟨b, o, s⟩ := ad
      have hs : s = none := by
        cases s with
        | none => rfl
        | some q => simp [Addr.add, World.cell?] at h0; split at h0 <;> simp at h0
      subst hs
      have hbk : b < w.heap.size := World.block_lt_of_cell? _ _ h0
      refine (Tryd.strings_Join b o c0 l0 a1 w ?_ hbk hb.1 hc0 hb.2).mono ?_
      · intro j x hx
        have h1 := hcell j x hx
        rcases Nat.eq_zero_or_pos j with rfl | hj
        · simpa [Addr.add] using h1
        · simpa [Addr.add, Nat.ne_of_gt hj] using h1
      · rintro e w' ⟨rfl, hb'⟩
        exact ⟨rfl, hb'⟩
  · cases h
theorem joinOf_some (l0 : List ByteArray) (a1 : ByteArray) (h0 : l0.length ≤ 140737488355328) (h1 : (Lib.join (l0.map (·.data.toList)) a1.data.toList).length ≤ 140737488355328) : strings_Join.f l0 a1 = some (joinOf l0 a1) := if_pos ⟨h0, h1⟩

end Go.Proofs.YtdfnongjbddngaaDoor.P
