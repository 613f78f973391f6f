/- The reference's and the program's AreLines come to one answer; the list's length is at most 2^40. -/
import Derived.Test.YtdfnongjbddngaaLoops
import Derived.Test.YtdfnongjbddngaaIn
import Derived.Test.YtdfnongjbddngaaPF25
import Derived.Test.YtdfnongjbddngaaPF28
import Derived.Test.YtdfnongjbddngaaPF55
namespace Go.Proofs.Ytdfnongjbddngaa.Pure
open Go.RowKit Go.Proofs.Ytdfnongjbddngaa.P Go.Proofs.YtdfnongjbddngaaW.PrintWords Go.Proofs.YtdfnongjbddngaaW.PrintLast Go.Proofs.Ytdfnongjbddngaa.Com
set_option linter.unusedSimpArgs false
set_option linter.unusedVariables false

/-- Are they lines, one to six, no two the same? -/
def linesB (l : List S48) : Bool := (List.range l.length).all (goodAt l) && (decide (1 ≤ l.length) && decide (l.length ≤ 6))
theorem impl_AreLines_eq (l : List S48) : impl_AreLines.f l = some (linesB l) := rfl
theorem farB_20 (n : Int) : farB n 20 = !inB n 20 := by
  unfold farB impl_isFar.f inB
  rw [w64 (by omega) (by omega)]
  by_cases h : n < -20
  · rw [if_pos h, Option.getD_some, Bool.eq_iff_iff]; simp; omega
  · rw [if_neg h, Option.getD_some, Bool.eq_iff_iff]; simp; omega
theorem same_swap (a b : S48) : spec_l24Same.f a.f0 a.f1 a.f2 b.f0 b.f1 b.f2 = some (sameB b a) := by
  rw [← areSame_is]
  unfold spec_l24Same.f impl_areSame.f
  rw [Int.mul_comm a.f0 b.f1, Int.mul_comm a.f1 b.f0, Int.mul_comm a.f0 b.f2, Int.mul_comm a.f2 b.f0, Int.mul_comm a.f1 b.f2, Int.mul_comm a.f2 b.f1]
  by_cases h1 : wrap64 (b.f1 * a.f0) = wrap64 (b.f0 * a.f1)
  · rw [if_pos h1, if_pos h1.symm]
    by_cases h2 : wrap64 (b.f2 * a.f0) = wrap64 (b.f0 * a.f2)
    · rw [if_pos h2, if_pos h2.symm]
      congr 1
      rw [Bool.eq_iff_iff, beq_iff_eq, beq_iff_eq]; exact eq_comm
    · rw [if_neg h2, if_neg (fun h => h2 h.symm)]
  · rw [if_neg h1, if_neg (fun h => h1 h.symm)]
def goodK (l : List S48) (k : Int) : Bool := !badLine (rd_T48 l k) && (ints 0 k.toNat).all fun i => !sameB (rd_T48 l k) (rd_T48 l i)
theorem goodK_eq (l : List S48) (i : Nat) (hi : i < l.length) : goodAt l i = goodK l (i : Int) := by
  unfold goodAt goodK
  rw [show l.getD i z48 = rd_T48 l (i : Int) from rfl]
  congr 1
  rw [Bool.eq_iff_iff]
  simp only [Bool.not_eq_true', List.any_eq_false, List.all_eq_true, ints_mem_iff]
  generalize rd_T48 l (i : Int) = y
  constructor
  · intro h j hj
    have hm : rd_T48 l j ∈ l.take i := by
      rw [show rd_T48 l j = l.getD j.toNat z48 from rfl, List.getD_eq_getElem?_getD, List.getElem?_eq_getElem (by omega), List.mem_take_iff_getElem]
      exact ⟨j.toNat, by omega, rfl⟩
    exact Bool.eq_false_iff.2 (h _ hm)
  · intro h x hx
    rw [List.mem_take_iff_getElem] at hx
    obtain ⟨j, hj, rfl⟩ := hx
    have := h (j : Int) (by omega)
    rw [show rd_T48 l (j : Int) = l.getD j z48 from rfl, List.getD_eq_getElem?_getD, List.getElem?_eq_getElem (by omega), Option.getD_some] at this
    exact Bool.eq_false_iff.1 this
theorem linesB_eq (l : List S48) : linesB l = ((ints 0 l.length).all (goodK l) && (decide (1 ≤ l.length) && decide (l.length ≤ 6))) := by
  unfold linesB
  congr 1
  rw [Bool.eq_iff_iff]
  simp only [List.all_eq_true, List.mem_range, ints_mem_iff]
  constructor
  · intro h k hk
    have := h k.toNat (by omega)
    rw [goodK_eq l _ (by omega), Int.toNat_of_nonneg hk.1] at this
    exact this
  · intro h i hi
    rw [goodK_eq l i hi]; exact h i (by omega)
theorem spec_AreLines_ev (l : List S48) (hl : l.length ≤ 1099511627776) : Ev (fun k => spec_AreLines.f k l) (linesB l) := by
  rw [linesB_eq]
  simp only [spec_AreLines.f]
  refine rangeLoop (σ := Unit) (l := fun q _ i => spec_AreLines.l0 q l i) (l.length : Int) (T := allT (goodK l)) (allT_mono _) (C := fun _ r => r = (decide (1 ≤ l.length) && decide (l.length ≤ 6))) 0 ?_ ?_ l.length 0 (by omega) (by omega) () _ ?_
  · intro _ k hk0 hkn r hT
    have stop : Ev (fun q => spec_AreLines.j1 q l k true (rd_T48 l k).f0 (rd_T48 l k).f1 (rd_T48 l k).f2) false := Ev.step (f := fun _ => some false) (fun q => by simp only [spec_AreLines.j1, if_true]) (Ev.now _)
    -- the line itself
    refine Ev.step (f := fun q => spec_AreLines.j1 q l k (badLine (rd_T48 l k)) (rd_T48 l k).f0 (rd_T48 l k).f1 (rd_T48 l k).f2) (fun q => ?_) ?_
    · simp only [spec_AreLines.l0]
      rw [if_pos hkn, if_pos hk0]
      simp only [l1In_eq, Option.bind_some]
      have e : ∀ x : Int, decide (-20 ≤ x ∧ x ≤ 20) = inB x 20 := fun x => rfl
      simp only [e, badLine, farB_20]
      cases inB (rd_T48 l k).f0 20 <;> cases inB (rd_T48 l k).f1 20 <;> cases inB (rd_T48 l k).f2 20 <;> simp
      by_cases hz : (rd_T48 l k).f0 = 0
      · rw [if_pos hz]; simp [hz]
      · rw [if_neg hz, beq_eq_false_iff_ne.mpr hz, Bool.false_and]
    cases hb : badLine (rd_T48 l k) with
    | true =>
      have : r = false := by simpa [allT, goodK, hb] using hT
      subst this; exact stop
    | false =>
      refine Ev.step (f := fun q => spec_AreLines.l1 q l k 0 (rd_T48 l k).f0 (rd_T48 l k).f1 (rd_T48 l k).f2) (fun q => by simp only [spec_AreLines.j1, Bool.false_eq_true, if_false]) ?_
      have hT1 : foldT (allT fun i => !sameB (rd_T48 l k) (rd_T48 l i)) (fun _ r => Ev (fun q => spec_AreLines.l0 q l (k + 1)) r) (ints 0 k.toNat) () r := by
        rw [allT_fold]
        have hT := hT
        unfold allT at hT
        rw [show goodK l k = (ints 0 k.toNat).all fun i => !sameB (rd_T48 l k) (rd_T48 l i) by simp [goodK, hb]] at hT
        exact hT
      refine rangeLoop (σ := Unit) (l := fun q _ i => spec_AreLines.l1 q l k i (rd_T48 l k).f0 (rd_T48 l k).f1 (rd_T48 l k).f2) k (T := allT _) (allT_mono _) 0 ?_ ?_ k.toNat 0 (by omega) (by omega) () r hT1
      · intro _ i hi0 hik r hT
        refine Ev.step (f := fun q => if sameB (rd_T48 l k) (rd_T48 l i) = true then some false else spec_AreLines.l1 q l k (i + 1) (rd_T48 l k).f0 (rd_T48 l k).f1 (rd_T48 l k).f2) (fun q => ?_) ?_
        · simp only [spec_AreLines.l1]
          rw [if_pos hik, if_pos hi0, if_pos (by omega), same_swap, w64 (by omega) (by omega)]; rfl
        cases hs : sameB (rd_T48 l k) (rd_T48 l i) with
        | true =>
          have : r = false := by simpa [allT, hs] using hT
          subst this; exact Ev.now _
        | false => simpa [allT, hs] using hT
      · intro _ r hC
        refine Ev.step (f := fun q => spec_AreLines.l0 q l (k + 1)) (fun q => ?_) hC
        simp only [spec_AreLines.l1]
        rw [if_neg (by omega), w64 (by omega) (by omega)]
  · intro _ r hC
    rw [hC]
    refine Ev.step (f := fun _ => some (decide (1 ≤ l.length) && decide (l.length ≤ 6))) (fun q => ?_) (Ev.now _)
    simp only [spec_AreLines.l0]
    rw [if_neg (by omega), l1In_eq]
    simp only [Option.bind_some]
    congr 1
    rw [Bool.eq_iff_iff]; simp; omega
  · rw [allT_fold]
    cases (ints 0 l.length).all (goodK l) <;> simp
theorem lines_len {l : List S48} (h : linesB l = true) : 1 ≤ l.length ∧ l.length ≤ 6 := by
  unfold linesB at h; simp only [Bool.and_eq_true, decide_eq_true_eq] at h; exact h.2
end Go.Proofs.Ytdfnongjbddngaa.Pure
