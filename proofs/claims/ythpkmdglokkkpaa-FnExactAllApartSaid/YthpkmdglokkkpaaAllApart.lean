/- For every list of numbers both AllApart functions come to one answer; the list's length is at most 2^40. -/
import Derived.Test.YthpkmdglokkkpaaApart
import Derived.Test.YthpkmdglokkkpaaCom
import Derived.Test.YthpkmdglokkkpaaPF38
import Derived.Test.YthpkmdglokkkpaaPF40
namespace Go.Proofs.Ythpkmdglokkkpaa.Pure
open Go.RowKit Go.Proofs.Ythpkmdglokkkpaa.P Go.Proofs.YthpkmdglokkkpaaW.PrintWords Go.Proofs.YthpkmdglokkkpaaW.PrintLast Go.Proofs.Ythpkmdglokkkpaa.Com
set_option linter.unusedSimpArgs false
set_option linter.unusedVariables false

theorem apart_spec_ev (a b : Int) : Ev (fun k => spec_AreApart.f k a b) (apart a b) := ⟨100, fun _ h => apart_spec h a b⟩
theorem apart_impl_ev (a b : Int) : Ev (fun k => impl_AreApart.f k a b) (apart a b) := ⟨100, fun _ h => apart_impl h a b⟩

theorem allapart_loops (l : List Int) (hl : l.length ≤ 64) (d : Nat) : ∀ i : Int, 0 ≤ i → i + d = l.length →
    ∃ r, Ev (fun k => spec_AllApart.l0 k l i) r ∧ Ev (fun k => impl_AllApart.l0 k l l (l.length : Int) i) r := by
  induction d with
  | zero =>
    intro i h0 hi
    refine ⟨true, ?_, ?_⟩
    · refine Ev.step (f := fun k => spec_AllApart.j1 k l i false) (fun k => by simp only [spec_AllApart.l0]; rw [if_neg (by omega)]) ?_
      refine Ev.step (f := fun _ => some true) (fun k => ?_) (Ev.now true)
      simp only [spec_AllApart.j1]
      rw [if_neg (by decide), decide_eq_true (by omega)]
    · refine Ev.step (f := fun _ => some true) (fun k => ?_) (Ev.now true)
      simp only [impl_AllApart.l0]
      rw [if_neg (by omega)]
  | succ d ih =>
    intro i h0 hi
    have wi : wrap64 (i + 1) = i + 1 := w64 (by omega) (by omega)
    have hlen : (l.take (i + 1).toNat).length = i.toNat + 1 := by rw [List.length_take]; omega
    obtain ⟨ro, hos, hoi⟩ := ih (i + 1) (by omega) (by omega)
    have inner : ∀ (e : Nat) (j : Int), 0 ≤ j → j + e = i + 1 →
        ∃ r, Ev (fun k => spec_AllApart.l1 k l i j) r ∧ Ev (fun k => impl_AllApart.l1 k l (rd l i) l (l.length : Int) i (l.take (i + 1).toNat) (((l.take (i + 1).toNat).length : Nat) : Int) j) r := by
      intro e
      induction e with
      | zero =>
        intro j hj0 hj
        refine ⟨ro, ?_, ?_⟩
        · refine Ev.step (f := fun k => spec_AllApart.l0 k l (i + 1)) (fun k => ?_) hos
          simp only [spec_AllApart.l1]
          rw [if_neg (by omega), wi]
        · refine Ev.step (f := fun k => impl_AllApart.l0 k l l (l.length : Int) (i + 1)) (fun k => ?_) hoi
          simp only [impl_AllApart.l1]
          rw [if_neg (by omega), wi]
      | succ e ihe =>
        intro j hj0 hj
        obtain ⟨rn, hns, hni⟩ := ihe (j + 1) (by omega) (by omega)
        have wj : wrap64 (j + 1) = j + 1 := w64 (by omega) (by omega)
        have hrd : rd (l.take (i + 1).toNat) j = rd l j := by
          unfold rd
          rw [List.getD_eq_getElem?_getD, List.getD_eq_getElem?_getD, List.getElem?_take_of_lt (by omega)]
        refine ⟨if apart (rd l i) (rd l j) = true then rn else false, ?_, ?_⟩
        · refine Ev.step (f := fun k => (spec_AreApart.f k (rd l i) (rd l j)).bind fun t => if t = true then spec_AllApart.l1 k l i (wrap64 (j + 1)) else some false) (fun k => ?_) ?_
          · simp only [spec_AllApart.l1]
            rw [if_pos (by omega), if_pos (by omega), if_pos (by omega), if_pos (by omega), if_pos (by omega)]
          · refine Ev.bind (apart_spec_ev _ _) ?_
            rw [wj]
            cases apart (rd l i) (rd l j)
            · exact Ev.now false
            · exact hns
        · refine Ev.step (f := fun k => (impl_AreApart.f k (rd l i) (rd l j)).bind fun t => if t = true then impl_AllApart.l1 k l (rd l i) l (l.length : Int) i (l.take (i + 1).toNat) (((l.take (i + 1).toNat).length : Nat) : Int) (wrap64 (j + 1)) else some false) (fun k => ?_) ?_
          · simp only [impl_AllApart.l1]
            rw [if_pos (by omega), if_pos (by omega), if_pos (by omega), hrd]
          · refine Ev.bind (apart_impl_ev _ _) ?_
            rw [wj]
            cases apart (rd l i) (rd l j)
            · exact Ev.now false
            · exact hni
    obtain ⟨r, hs, hi'⟩ := inner (i.toNat + 1) 0 (by omega) (by omega)
    refine ⟨r, ?_, ?_⟩
    · refine Ev.step (f := fun k => spec_AllApart.j1 k l i true) (fun k => by simp only [spec_AllApart.l0]; rw [if_pos (by omega), decide_eq_true (by omega)]) ?_
      refine Ev.step (f := fun k => spec_AllApart.l1 k l i 0) (fun k => by simp only [spec_AllApart.j1, if_true]) hs
    · refine Ev.step (f := fun k => impl_AllApart.l1 k l (rd l i) l (l.length : Int) i (l.take (i + 1).toNat) (((l.take (i + 1).toNat).length : Nat) : Int) 0) (fun k => ?_) hi'
      simp only [impl_AllApart.l0, wi]
      rw [if_pos (by omega), if_pos (by omega), if_pos (by omega), if_pos (by omega), if_pos (by omega)]

theorem allapart_both (l : List Int) (hl : l.length ≤ 1099511627776) : ∃ r, Ev (fun k => spec_AllApart.f k l) r ∧ Ev (fun k => impl_AllApart.f k l) r := by
  by_cases h : l.length ≤ 64
  · obtain ⟨r, h1, h2⟩ := allapart_loops l h l.length 0 (by omega) (by omega)
    refine ⟨r, h1, ?_⟩
    simp only [impl_AllApart.f]
    exact Ev.iteF (by omega) h2
  · refine ⟨false, ?_, ?_⟩
    · simp only [spec_AllApart.f]
      refine Ev.step (f := fun k => spec_AllApart.j1 k l 0 false) (fun k => by simp only [spec_AllApart.l0]; rw [if_pos (by omega), decide_eq_false (by omega)]) ?_
      refine Ev.step (f := fun _ => some false) (fun k => ?_) (Ev.now false)
      simp only [spec_AllApart.j1]
      rw [if_neg (by decide), decide_eq_false (by omega)]
    · simp only [impl_AllApart.f]
      exact Ev.iteT (by omega) (Ev.now false)
end Go.Proofs.Ythpkmdglokkkpaa.Pure
