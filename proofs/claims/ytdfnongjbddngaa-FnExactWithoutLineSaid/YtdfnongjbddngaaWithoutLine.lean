/- The reference's and the program's WithoutLine come to one answer; the list's length is at most 2^40. -/
import Derived.Test.YtdfnongjbddngaaAreLines
import Derived.Test.YtdfnongjbddngaaPF8
import Derived.Test.YtdfnongjbddngaaPF10
namespace Go.Proofs.Ytdfnongjbddngaa.Pure
open Go.RowKit Go.Proofs.Ytdfnongjbddngaa.P Go.Proofs.YtdfnongjbddngaaW.PrintWords Go.Proofs.YtdfnongjbddngaaW.PrintLast Go.Proofs.Ytdfnongjbddngaa.Com
set_option linter.unusedSimpArgs false
set_option linter.unusedVariables false

def withoutB (l : List S48) (i : Int) : Bool := linesB l && (decide (l.length ≠ 1) && decide (0 ≤ i ∧ i < l.length))
def withoutL (l : List S48) (i : Int) : List S48 × Bool := if withoutB l i = true then (l.eraseIdx i.toNat, true) else ([], false)
theorem withoutL_length (l : List S48) (i : Int) : (withoutL l i).1.length ≤ 6 := by
  unfold withoutL
  split
  · rename_i h
    simp only [withoutB, Bool.and_eq_true, decide_eq_true_eq] at h
    have := lines_len h.1
    have := List.length_eraseIdx_le l i.toNat
    show (l.eraseIdx i.toNat).length ≤ 6
    omega
  · simp
theorem spec_Without_ev (l : List S48) (i : Int) (hi : -9223372036854775808 ≤ i ∧ i ≤ 9223372036854775807) (hl : l.length ≤ 1099511627776) : Ev (fun k => spec_WithoutLine.f k l i) (withoutL l i) := by
  simp only [spec_WithoutLine.f]
  refine Ev.bind (spec_AreLines_ev l hl) ?_
  cases hb : linesB l with
  | false =>
    unfold withoutL withoutB
    rw [hb]
    exact Ev.iteF (by decide) (Ev.now _)
  | true =>
    have h6 := lines_len hb
    refine Ev.iteT rfl ?_
    by_cases h1 : l.length = 1
    · unfold withoutL withoutB
      rw [hb, decide_eq_false (by omega)]
      exact Ev.iteT (by omega) (Ev.now _)
    · refine Ev.iteF (by omega) ?_
      have hw : wrap64 ((l.length : Int) - 1) = (l.length : Int) - 1 := w64 (by omega) (by omega)
      by_cases h : 0 ≤ i ∧ i < l.length
      · have e : spec_l1In.f i 0 (wrap64 ((l.length : Int) - 1)) = some true := by
          simp only [spec_l1In.f, hw]
          rw [if_pos (by omega), decide_eq_true (by omega)]
        have hv : withoutL l i = (l.eraseIdx i.toNat, true) := by
          unfold withoutL withoutB
          rw [hb, decide_eq_true (by omega), decide_eq_true h]
          rfl
        have hw2 : wrap64 (i + 1) = i + 1 := w64 (by omega) (by omega)
        have hr : (([] : List S48) ++ l.take i.toNat) ++ l.drop (wrap64 (i + 1)).toNat = l.eraseIdx i.toNat := by
          rw [List.nil_append, hw2, show (i + 1).toNat = i.toNat + 1 from by omega, List.eraseIdx_eq_take_drop_succ]
        have hlt : (l.take i.toNat).length ≤ 6 := by rw [List.length_take]; omega
        have hld : (l.drop (wrap64 (i + 1)).toNat).length ≤ 6 := by rw [List.length_drop]; omega
        rw [hv, e]
        simp only [Option.bind_some]
        refine Ev.iteT (by trivial) (Ev.iteT h.1 (Ev.iteT (by omega) (Ev.iteT (by rw [List.length_nil]; omega) (Ev.iteT (by omega) (Ev.iteT (by omega) (Ev.iteT (by rw [List.nil_append]; omega) ?_))))))
        rw [hr]
        exact Ev.now _
      · have e : spec_l1In.f i 0 (wrap64 ((l.length : Int) - 1)) = some false := by
          simp only [spec_l1In.f, hw]
          split
          · rw [decide_eq_false (by omega)]
          · rfl
        have hv : withoutL l i = ([], false) := by
          unfold withoutL withoutB
          rw [decide_eq_false h, Bool.and_false, Bool.and_false, if_neg (by decide)]
        rw [hv, e]
        simp only [Option.bind_some]
        exact Ev.iteF (by simp) (Ev.now _)
theorem impl_Without_ev (l : List S48) (i : Int) (hi : -9223372036854775808 ≤ i ∧ i ≤ 9223372036854775807) (hl : l.length ≤ 1099511627776) : Ev (fun k => impl_WithoutLine.f k l i) (withoutL l i) := by
  have hout : Ev (fun k => impl_WithoutLine.j0 k l i true) ([], false) := Ev.step (f := fun _ => some ([], false)) (fun k => by simp only [impl_WithoutLine.j0, if_true]) (Ev.now _)
  simp only [impl_WithoutLine.f, impl_AreLines_eq, Option.bind_some]
  cases hb : linesB l with
  | false =>
    unfold withoutL withoutB
    rw [hb]
    exact Ev.iteF (by decide) hout
  | true =>
    have h6 := lines_len hb
    refine Ev.iteT rfl ?_
    by_cases h1 : l.length = 1
    · unfold withoutL withoutB
      rw [hb, decide_eq_false (by omega)]
      exact Ev.iteT (by omega) hout
    · refine Ev.iteF (by omega) ?_
      by_cases h : 0 ≤ i ∧ i < l.length
      · have e : impl_isElement.f (l.length : Int) i = some true := by
          simp only [impl_isElement.f]
          rw [if_pos (by omega), decide_eq_true (by omega)]
        have hv : withoutL l i = (l.eraseIdx i.toNat, true) := by
          unfold withoutL withoutB
          rw [hb, decide_eq_true (by omega), decide_eq_true h]
          rfl
        have hw2 : wrap64 (i + 1) = i + 1 := w64 (by omega) (by omega)
        rw [hv, e]
        simp only [Option.bind_some, Bool.not_true]
        refine Ev.step (f := fun _ => some (l.eraseIdx i.toNat, true)) (fun k => ?_) (Ev.now _)
        simp only [impl_WithoutLine.j0, Bool.false_eq_true, if_false, impl_Line_31.f, impl_Line_30.f, hw2]
        rw [if_pos (by omega)]
        simp only [Option.bind_some]
        rw [if_pos (by exact ⟨h.1, by trivial, by omega⟩)]
        rfl
      · have e : impl_isElement.f (l.length : Int) i = some false := by
          simp only [impl_isElement.f]
          split
          · rw [decide_eq_false (by omega)]
          · rfl
        have hv : withoutL l i = ([], false) := by
          unfold withoutL withoutB
          rw [decide_eq_false h, Bool.and_false, Bool.and_false, if_neg (by decide)]
        rw [hv, e]
        exact hout
end Go.Proofs.Ytdfnongjbddngaa.Pure
