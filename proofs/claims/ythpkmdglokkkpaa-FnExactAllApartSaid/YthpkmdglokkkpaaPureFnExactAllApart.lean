/- For every list of numbers the program's AllApart returns what the reference's returns, and leaves the list as it was; no condition. -/
import Derived.Test.YthpkmdglokkkpaaAllApart
import Derived.Test.YthpkmdglokkkpaaComInt
import Derived.Test.YthpkmdglokkkpaaPF11
namespace Go.Proofs.Ythpkmdglokkkpaa.Pure
open Go.RowKit Go.Proofs.Ythpkmdglokkkpaa.P Go.Proofs.YthpkmdglokkkpaaW.PrintWords Go.Proofs.YthpkmdglokkkpaaW.PrintLast Go.Proofs.Ythpkmdglokkkpaa.Com

theorem FnExactAllApart : laws_FnExactAllApart.Pure := by
  intro l _
  apply Ev.rounds
  simp only [laws_FnExactAllApart.f]
  by_cases h : (l.length : Int) > 1048576
  · exact Ev.iteT h (Ev.now true)
  refine Ev.iteF h ?_
  obtain ⟨r, hs, hi⟩ := allapart_both l (by omega)
  refine Ev.bind (toIntS_eq l (by omega)) (Ev.bind hs (Ev.bind (toIntS_eq l (by omega)) (Ev.bind hi ?_)))
  refine Ev.iteF (by simp) ?_
  refine Ev.bind (toIntS_eq l (by omega)) (Ev.bind (eqIntS_refl l (by omega)) ?_)
  exact Ev.now true
end Go.Proofs.Ythpkmdglokkkpaa.Pure
