/-
  No cell of these rows narrows 'for every input' (looked for: loops, veiled, ifaces, maps, wideKeys, modest, calm, conditions, laid).
  DERIVED. THE GIVEN ROWS OF THIS SEAT. 4 by the template 'for every input the law returns true; each argument reads behind the call as it read before'; 0 by the template 'total and deterministic' (their statements: YtdfnongjbddngaaTotals.lean).
  GIVEN WITH THE SEED: the statements are not yours to turn. If you find one false, say at which input.
  Laid BY PROGRAM, IN A SANDBOX (cutbox-rows.mjs): the forced cells as the released guide's own fill.sh prints them over the translation 46132546590919a0… (all of the seat's roots in one cut). By AI agents, Wed Nov 11 2026. No macro, syntax, notation, axiom, sorry.
-/
import Derived.Test.YtdfnongjbddngaaChecked
import GoSem.Claim
import GoSem.ClaimJoined
import GoSem.ClaimMapViews
import Derived.JoinedTies
import Derived.KernelRfl
namespace Go.Proofs.Ytdfnongjbddngaa
/- THE CELL 'sum', in the pinned program and in every row, IS THE sha256 OF THE DUMP (.gsa) THAT YtdfnongjbddngaaProg.lean LOADS. Nothing in Lean hashes anything: it is a label: what it is worth is what the hold of that sum in a sandbox is worth. -/
noncomputable def Try.pinned : Pinned := { name := "ytdfnongjbddngaa", sum := "46132546590919a027e8b364a887e17ff0dc951ea1705dccd1ab43e4133a8fdd", checked := Try.checked }
namespace Rows
def none {H : Type} : Left H := { results := [], args := [] }

/-- 'laws.FnExactWithoutLine': WHATEVER THE INPUT: true; the input reads as it did. -/
def fnExactWithoutLineSpec : ChangeSpec := { name := "fnExactWithoutLine", fn := fun _ => fun
  | [d1, d2] => { results := [.lit (.bool true)], args := [d1, d2] }
  | _ => none }
def fnExactWithoutLineRow : OpenClaim := { program := "ytdfnongjbddngaa", sum := "46132546590919a027e8b364a887e17ff0dc951ea1705dccd1ab43e4133a8fdd", func := "loop.example/g03104/laws.FnExactWithoutLine", spec := "fnExactWithoutLine", unfollowed := true, recurses := true, apart := false }
def FnExactWithoutLineSaid : Prop := fnExactWithoutLineRow.holds Try.pinned (OpenSpec.ofChange fnExactWithoutLineSpec)

/-- ITS FALSE NEIGHBOUR: 'it returns false'. Refute it at one input. -/
def fnExactWithoutLineWrong : ChangeSpec := { name := "fnExactWithoutLine", fn := fun _ => fun
  | [d1, d2] => { results := [.lit (.bool false)], args := [d1, d2] }
  | _ => none }
def FnExactWithoutLineWrongFalsely : Prop := fnExactWithoutLineRow.holds Try.pinned (OpenSpec.ofChange fnExactWithoutLineWrong)

/-- 'laws.FnExactConvexSigns': WHATEVER THE INPUT: true; the input reads as it did. -/
def fnExactConvexSignsSpec : ChangeSpec := { name := "fnExactConvexSigns", fn := fun _ => fun
  | [d] => { results := [.lit (.bool true)], args := [d] }
  | _ => none }
def fnExactConvexSignsRow : OpenClaim := { program := "ytdfnongjbddngaa", sum := "46132546590919a027e8b364a887e17ff0dc951ea1705dccd1ab43e4133a8fdd", func := "loop.example/g03104/laws.FnExactConvexSigns", spec := "fnExactConvexSigns", apart := false }
def FnExactConvexSignsSaid : Prop := fnExactConvexSignsRow.holds Try.pinned (OpenSpec.ofChange fnExactConvexSignsSpec)

/-- ITS FALSE NEIGHBOUR: 'it returns false'. Refute it at one input. -/
def fnExactConvexSignsWrong : ChangeSpec := { name := "fnExactConvexSigns", fn := fun _ => fun
  | [d] => { results := [.lit (.bool false)], args := [d] }
  | _ => none }
def FnExactConvexSignsWrongFalsely : Prop := fnExactConvexSignsRow.holds Try.pinned (OpenSpec.ofChange fnExactConvexSignsWrong)

/-- 'laws.FnExactCellSets': WHATEVER THE INPUT: true; the input reads as it did. -/
def fnExactCellSetsSpec : ChangeSpec := { name := "fnExactCellSets", fn := fun _ => fun
  | [d1, d2] => { results := [.lit (.bool true)], args := [d1, d2] }
  | _ => none }
def fnExactCellSetsRow : OpenClaim := { program := "ytdfnongjbddngaa", sum := "46132546590919a027e8b364a887e17ff0dc951ea1705dccd1ab43e4133a8fdd", func := "loop.example/g03104/laws.FnExactCellSets", spec := "fnExactCellSets", unfollowed := true, recurses := true, apart := false }
def FnExactCellSetsSaid : Prop := fnExactCellSetsRow.holds Try.pinned (OpenSpec.ofChange fnExactCellSetsSpec)

/-- ITS FALSE NEIGHBOUR: 'it returns false'. Refute it at one input. -/
def fnExactCellSetsWrong : ChangeSpec := { name := "fnExactCellSets", fn := fun _ => fun
  | [d1, d2] => { results := [.lit (.bool false)], args := [d1, d2] }
  | _ => none }
def FnExactCellSetsWrongFalsely : Prop := fnExactCellSetsRow.holds Try.pinned (OpenSpec.ofChange fnExactCellSetsWrong)

/-- 'laws.FnExactWiringOfSets': WHATEVER THE INPUT: true; the input reads as it did. -/
def fnExactWiringOfSetsSpec : ChangeSpec := { name := "fnExactWiringOfSets", fn := fun _ => fun
  | [d1, d2] => { results := [.lit (.bool true)], args := [d1, d2] }
  | _ => none }
def fnExactWiringOfSetsRow : OpenClaim := { program := "ytdfnongjbddngaa", sum := "46132546590919a027e8b364a887e17ff0dc951ea1705dccd1ab43e4133a8fdd", func := "loop.example/g03104/laws.FnExactWiringOfSets", spec := "fnExactWiringOfSets", unfollowed := true, recurses := true, apart := false }
def FnExactWiringOfSetsSaid : Prop := fnExactWiringOfSetsRow.holds Try.pinned (OpenSpec.ofChange fnExactWiringOfSetsSpec)

/-- ITS FALSE NEIGHBOUR: 'it returns false'. Refute it at one input. -/
def fnExactWiringOfSetsWrong : ChangeSpec := { name := "fnExactWiringOfSets", fn := fun _ => fun
  | [d1, d2] => { results := [.lit (.bool false)], args := [d1, d2] }
  | _ => none }
def FnExactWiringOfSetsWrongFalsely : Prop := fnExactWiringOfSetsRow.holds Try.pinned (OpenSpec.ofChange fnExactWiringOfSetsWrong)

/- THE SECOND FORM. 'bulk': how many values and letters a reading holds, each counted each time it is reached (what is shared counts as often as it is met; a slice's spare places count too). A statement '..UptoSaid' is the law's where the arguments, and the package variables that the reading takes, are together of bulk at most 1048576: NARROWER than '..Said'. Prove '..Said' where nothing that the law and all that it calls make is longer than what came in: it says more and counts as full. Else prove '..UptoSaid'. A law counts once. -/
mutual
def uptoBulk {H : Type} : DataW H → Nat
  | .lit (.string bytes) => bytes.length + 1
  | .lit _ => 1
  | .nil => 1
  | .ptr d => uptoBulk d + 1
  | .slice elems spare => uptoBulkAll elems + uptoBulkAll spare + 1
  | .agg parts => uptoBulkAll parts + 1
  | .iface _ d => uptoBulk d + 1
  | .map entries => uptoBulkEntries entries + 1
  | .held _ => 1
def uptoBulkAll {H : Type} : List (DataW H) → Nat
  | [] => 0
  | d :: r => uptoBulk d + uptoBulkAll r
def uptoBulkEntries {H : Type} : List (Lit × DataW H) → Nat
  | [] => 0
  | x :: r => uptoBulkEntry x + uptoBulkEntries r
def uptoBulkEntry {H : Type} : Lit × DataW H → Nat
  | (.string bytes, d) => bytes.length + uptoBulk d + 1
  | (_, d) => uptoBulk d + 1
 end
def uptoSmall : (H : Type) → List (DataW H) → Bool := fun _ ds => decide (uptoBulkAll ds ≤ 1048576)
def OpenSpec.upto (s : _root_.Go.ChangeSpec) : _root_.Go.OpenSpec := { _root_.Go.OpenSpec.ofChange s with cond := some uptoSmall }

/-- 'laws.FnExactWithoutLine', WHERE WHAT IT READS IS OF BULK AT MOST 1048576: true; the input reads as it did. -/
def fnExactWithoutLineUptoRow : OpenClaim := { program := "ytdfnongjbddngaa", sum := "46132546590919a027e8b364a887e17ff0dc951ea1705dccd1ab43e4133a8fdd", func := "loop.example/g03104/laws.FnExactWithoutLine", spec := "fnExactWithoutLine", unfollowed := true, recurses := true, apart := false, narrowed := true }
def FnExactWithoutLineUptoSaid : Prop := fnExactWithoutLineUptoRow.holds Try.pinned (OpenSpec.upto fnExactWithoutLineSpec)

/-- 'laws.FnExactConvexSigns', WHERE WHAT IT READS IS OF BULK AT MOST 1048576: true; the input reads as it did. -/
def fnExactConvexSignsUptoRow : OpenClaim := { program := "ytdfnongjbddngaa", sum := "46132546590919a027e8b364a887e17ff0dc951ea1705dccd1ab43e4133a8fdd", func := "loop.example/g03104/laws.FnExactConvexSigns", spec := "fnExactConvexSigns", apart := false, narrowed := true }
def FnExactConvexSignsUptoSaid : Prop := fnExactConvexSignsUptoRow.holds Try.pinned (OpenSpec.upto fnExactConvexSignsSpec)

/-- 'laws.FnExactCellSets', WHERE WHAT IT READS IS OF BULK AT MOST 1048576: true; the input reads as it did. -/
def fnExactCellSetsUptoRow : OpenClaim := { program := "ytdfnongjbddngaa", sum := "46132546590919a027e8b364a887e17ff0dc951ea1705dccd1ab43e4133a8fdd", func := "loop.example/g03104/laws.FnExactCellSets", spec := "fnExactCellSets", unfollowed := true, recurses := true, apart := false, narrowed := true }
def FnExactCellSetsUptoSaid : Prop := fnExactCellSetsUptoRow.holds Try.pinned (OpenSpec.upto fnExactCellSetsSpec)

/-- 'laws.FnExactWiringOfSets', WHERE WHAT IT READS IS OF BULK AT MOST 1048576: true; the input reads as it did. -/
def fnExactWiringOfSetsUptoRow : OpenClaim := { program := "ytdfnongjbddngaa", sum := "46132546590919a027e8b364a887e17ff0dc951ea1705dccd1ab43e4133a8fdd", func := "loop.example/g03104/laws.FnExactWiringOfSets", spec := "fnExactWiringOfSets", unfollowed := true, recurses := true, apart := false, narrowed := true }
def FnExactWiringOfSetsUptoSaid : Prop := fnExactWiringOfSetsUptoRow.holds Try.pinned (OpenSpec.upto fnExactWiringOfSetsSpec)

end Rows
end Go.Proofs.Ytdfnongjbddngaa
