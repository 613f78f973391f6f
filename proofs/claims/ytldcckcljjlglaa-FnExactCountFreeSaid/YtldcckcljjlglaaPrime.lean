/- The reference's and the program's IsPrime come to one answer; no condition. -/
import Derived.Test.YtldcckcljjlglaaIn
import Derived.Test.YtldcckcljjlglaaPF62
import Derived.Test.YtldcckcljjlglaaPF61
namespace Go.Proofs.Ytldcckcljjlglaa.Pure
open Go.RowKit Go.Proofs.Ytldcckcljjlglaa.P Go.Proofs.YtldcckcljjlglaaW.PrintWords Go.Proofs.YtldcckcljjlglaaW.PrintLast Go.Proofs.Ytldcckcljjlglaa.Com
set_option linter.unusedSimpArgs false
set_option linter.unusedVariables false

theorem prime_small : ∀ n : Fin 998, (match spec_IsPrime.f 60 (n.val : Int), impl_IsPrime.f 60 (n.val : Int) with | some x, some y => x == y && (!x || decide (2 ≤ n.val)) | _, _ => false) = true := by decide +kernel
theorem two_of {x : Bool} {p : Int} (h : x = false ∨ 2 ≤ p.toNat) (hx : x = true) (h0 : 0 ≤ p) : 2 ≤ p := by
  rcases h with h | h
  · rw [h] at hx; cases hx
  · omega
theorem prime_both (p : Int) : ∃ r, Ev (fun k => spec_IsPrime.f k p) r ∧ Ev (fun k => impl_IsPrime.f k p) r ∧ (r = true → 2 ≤ p) := by
  by_cases h : 0 ≤ p ∧ p ≤ 997
  · have z := prime_small ⟨p.toNat, by omega⟩
    simp only [Int.toNat_of_nonneg h.1] at z
    revert z
    cases hs : spec_IsPrime.f 60 p with
    | none => intro z; simp at z
    | some x =>
      cases hi : impl_IsPrime.f 60 p with
      | none => intro z; simp at z
      | some y =>
        intro z
        have z' : x = y ∧ (x = false ∨ 2 ≤ p.toNat) := by simpa using z
        obtain ⟨e, h2⟩ := z'
        subst e
        exact ⟨x, Ev.of (fun k => spec_IsPrime.mono p k) hs, Ev.of (fun k => impl_IsPrime.mono p k) hi, fun hx => two_of h2 hx h.1⟩
  · refine ⟨false, ?_, ?_, fun hx => by cases hx⟩
    · simp only [spec_IsPrime.f, l1In_eq, Option.bind_some]
      exact Ev.iteF (by simp; omega) (Ev.now _)
    · simp only [impl_IsPrime.f]
      have stop : Ev (fun k => impl_IsPrime.j0 k p true) false := Ev.step (f := fun _ => some false) (fun k => by simp only [impl_IsPrime.j0, if_true]) (Ev.now _)
      by_cases h1 : p < 2
      · exact Ev.iteT h1 stop
      · refine Ev.iteF h1 ?_
        rw [decide_eq_true (by omega)]; exact stop
noncomputable def primeB (p : Int) : Bool := Classical.choose (prime_both p)
theorem prime_spec (p : Int) : Ev (fun k => spec_IsPrime.f k p) (primeB p) := (Classical.choose_spec (prime_both p)).1
theorem prime_impl (p : Int) : Ev (fun k => impl_IsPrime.f k p) (primeB p) := (Classical.choose_spec (prime_both p)).2.1
theorem prime_two {p : Int} (h : primeB p = true) : 2 ≤ p := (Classical.choose_spec (prime_both p)).2.2 h
end Go.Proofs.Ytldcckcljjlglaa.Pure
