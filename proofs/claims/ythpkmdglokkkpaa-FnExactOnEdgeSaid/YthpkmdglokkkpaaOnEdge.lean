/- The reference's and the program's OnEdge come to one answer; no condition. -/
import Derived.Test.YthpkmdglokkkpaaNear
import Derived.Test.YthpkmdglokkkpaaDivisor
import Derived.Test.YthpkmdglokkkpaaPF28
import Derived.Test.YthpkmdglokkkpaaPF29
namespace Go.Proofs.Ythpkmdglokkkpaa.Pure
open Go.RowKit Go.Proofs.Ythpkmdglokkkpaa.P Go.Proofs.YthpkmdglokkkpaaW.PrintWords Go.Proofs.YthpkmdglokkkpaaW.PrintLast Go.Proofs.Ythpkmdglokkkpaa.Com
set_option linter.unusedSimpArgs false
set_option linter.unusedVariables false

def onEdge (a b c d : Int) : Int := if (inB a 1000 && inB b 1000) = true then if (inB c 1000 && inB d 1000) = true then (Int.gcd (c - a) (d - b) : Int) else -1 else -1
theorem onEdge_spec (a b c d : Int) : Ev (fun k => spec_OnEdge.f k a b c d) (onEdge a b c d) := by
  simp only [spec_OnEdge.f, l2Fits_eq _ _ 1000 (show (0 : Int) ≤ 1000 by omega) (by omega), Option.bind_some, onEdge]
  by_cases h1 : (inB a 1000 && inB b 1000) = true
  · by_cases h2 : (inB c 1000 && inB d 1000) = true
    · simp only [if_pos h1, if_pos h2]
      simp only [Bool.and_eq_true, inB_iff] at h1 h2
      rw [w64 (x := c - a) (by omega) (by omega), w64 (x := d - b) (by omega) (by omega)]
      exact Ev.bind (l24Gcd_ev _ _ (by omega) (by omega)) (Ev.now _)
    · simp only [if_pos h1, if_neg h2]; exact Ev.now _
  · simp only [if_neg h1]; exact Ev.now _
theorem onEdge_impl (a b c d : Int) : Ev (fun k => impl_OnEdge.f k a b c d) (onEdge a b c d) := by
  simp only [impl_OnEdge.f, areNear_eq 1000 _ (show (0 : Int) ≤ 1000 by omega) (by omega), Option.bind_some, onEdge, List.all_cons, List.all_nil, Bool.and_true]
  by_cases h1 : (inB a 1000 && inB b 1000) = true
  · by_cases h2 : (inB c 1000 && inB d 1000) = true
    · simp only [h1, h2, Bool.and_self, if_true]
      simp only [Bool.and_eq_true, inB_iff] at h1 h2
      rw [w64 (x := c - a) (by omega) (by omega), w64 (x := d - b) (by omega) (by omega)]
      exact Ev.bind (divisor2 _ _ (by omega) (by omega)) (Ev.now _)
    · simp only [h1, Bool.not_eq_true _ ▸ h2, Bool.and_false, if_true]
      simp only [Bool.false_eq_true, if_false]
      exact Ev.now _
  · simp only [Bool.not_eq_true _ ▸ h1, Bool.false_and, Bool.false_eq_true, if_false]; exact Ev.now _
end Go.Proofs.Ythpkmdglokkkpaa.Pure
