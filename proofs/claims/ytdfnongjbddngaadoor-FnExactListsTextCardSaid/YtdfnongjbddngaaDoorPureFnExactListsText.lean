/- For every row of rows of numbers the program's ListsText returns what the reference's returns and leaves the rows as they were; no condition. -/
import Derived.Test.YtdfnongjbddngaaDoorRowsText
import Derived.Test.YtdfnongjbddngaaDoorPF6
namespace Go.Proofs.YtdfnongjbddngaaDoor.Pure
open Go.RowKit Go.Proofs.YtdfnongjbddngaaDoor.P Go.Proofs.YtdfnongjbddngaaDoorW.PrintWords Go.Proofs.YtdfnongjbddngaaDoorW.PrintLast Go.Proofs.YtdfnongjbddngaaDoor.Com
set_option linter.unusedSimpArgs false
set_option linter.unusedVariables false

theorem FnExactListsText : laws_FnExactListsText.Pure := by
  rintro L ⟨hm, hw⟩
  have h : ∀ l ∈ L, ∀ n ∈ l, I64 n := fun l hl n hn => i64_of_wf ((hw l hl).2 n hn)
  have hmax : maxLen = 9223372036854775807 := by decide
  obtain ⟨t, ht, hor⟩ := sz_eq L (by omega) (fun l hl => by have := (hw l hl).1; omega)
  apply Ev.rounds
  unfold laws_FnExactListsText.f
  refine Ev.bind ht ?_
  by_cases c : t < 0
  · exact Ev.iteT c (Ev.now true)
  · refine Ev.iteF c ?_
    have hT : L.length + tot L ≤ 1048576 := by rcases hor with h | h; exact absurd h c; exact h
    have hs : ∀ l ∈ L, l.length ≤ 1048576 := fun l hl => by have := tot_mem L l hl; omega
    have e0 := toIntSS_eq L (by omega) hs
    exact Ev.bind e0 (Ev.bind (srows_eq L h hT) (Ev.bind e0 (Ev.bind (irows_eq L h hT) (Ev.iteT rfl (Ev.bind e0 (Ev.bind (eqIntSS_same L (by omega) hs) (Ev.iteT rfl (Ev.now true))))))))
end Go.Proofs.YtdfnongjbddngaaDoor.Pure
