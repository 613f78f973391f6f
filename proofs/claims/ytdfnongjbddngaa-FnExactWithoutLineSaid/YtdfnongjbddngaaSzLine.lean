/- The laws' look at the size of a row of lines; no condition but the row's length. -/
import Derived.Test.YtdfnongjbddngaaComLine
import Derived.Test.YtdfnongjbddngaaPF7
namespace Go.Proofs.Ytdfnongjbddngaa.Pure
open Go.RowKit Go.Proofs.Ytdfnongjbddngaa.P Go.Proofs.YtdfnongjbddngaaW.PrintWords Go.Proofs.YtdfnongjbddngaaW.PrintLast Go.Proofs.Ytdfnongjbddngaa.Com
set_option linter.unusedSimpArgs false
set_option linter.unusedVariables false

theorem szLineS_eq (l : List S50) (hm : l.length ≤ maxLen) : laws_szLineS.f l 1048576 = some (if l.length ≤ 1048576 then 1048576 - (l.length : Int) else -1) := by
  unfold maxLen at hm
  unfold laws_szLineS.f
  rw [w64 (by omega) (by omega)]
  by_cases h : l.length ≤ 1048576
  · rw [if_neg (by omega), if_pos h]
  · rw [if_pos (by omega), if_neg h]
end Go.Proofs.Ytdfnongjbddngaa.Pure
