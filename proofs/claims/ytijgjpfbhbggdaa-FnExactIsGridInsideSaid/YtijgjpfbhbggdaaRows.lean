/-
  No cell of these rows narrows 'for every input' (looked for: loops, veiled, ifaces, maps, wideKeys, modest, calm, conditions, laid).
  DERIVED. THE GIVEN ROWS OF THIS SEAT. 12 by the template 'for every input the law returns true; each argument reads behind the call as it read before'; 0 by the template 'total and deterministic' (their statements: YtijgjpfbhbggdaaTotals.lean).
  GIVEN WITH THE SEED: the statements are not yours to turn. If you find one false, say at which input.
  Laid BY PROGRAM, IN A SANDBOX (cutbox-rows.mjs): the forced cells as the released guide's own fill.sh prints them over the translation 2e814dc910f7a3e8… (all of the seat's roots in one cut). By AI agents, Wed Nov 11 2026. No macro, syntax, notation, axiom, sorry.
-/
import Derived.Test.YtijgjpfbhbggdaaChecked
import GoSem.Claim
import GoSem.ClaimJoined
import GoSem.ClaimMapViews
import Derived.JoinedTies
import Derived.KernelRfl
namespace Go.Proofs.Ytijgjpfbhbggdaa
/- THE CELL 'sum', in the pinned program and in every row, IS THE sha256 OF THE DUMP (.gsa) THAT YtijgjpfbhbggdaaProg.lean LOADS. Nothing in Lean hashes anything: it is a label: what it is worth is what the hold of that sum in a sandbox is worth. -/
noncomputable def Try.pinned : Pinned := { name := "ytijgjpfbhbggdaa", sum := "2e814dc910f7a3e8b642afa06633973d7e0a95f65f4766e0a4c88cd119eaa5c7", checked := Try.checked }
namespace Rows
def none {H : Type} : Left H := { results := [], args := [] }

/-- 'laws.FnExactCenterTimes': WHATEVER THE INPUT: true; the input reads as it did. -/
def fnExactCenterTimesSpec : ChangeSpec := { name := "fnExactCenterTimes", fn := fun _ => fun
  | [d] => { results := [.lit (.bool true)], args := [d] }
  | _ => none }
def fnExactCenterTimesRow : OpenClaim := { program := "ytijgjpfbhbggdaa", sum := "2e814dc910f7a3e8b642afa06633973d7e0a95f65f4766e0a4c88cd119eaa5c7", func := "loop.example/g03104/laws.FnExactCenterTimes", spec := "fnExactCenterTimes", unfollowed := true, recurses := true, apart := false }
def FnExactCenterTimesSaid : Prop := fnExactCenterTimesRow.holds Try.pinned (OpenSpec.ofChange fnExactCenterTimesSpec)

/-- ITS FALSE NEIGHBOUR: 'it returns false'. Refute it at one input. -/
def fnExactCenterTimesWrong : ChangeSpec := { name := "fnExactCenterTimes", fn := fun _ => fun
  | [d] => { results := [.lit (.bool false)], args := [d] }
  | _ => none }
def FnExactCenterTimesWrongFalsely : Prop := fnExactCenterTimesRow.holds Try.pinned (OpenSpec.ofChange fnExactCenterTimesWrong)

/-- 'laws.FnExactAreFree': WHATEVER THE INPUT: true; the input reads as it did. -/
def fnExactAreFreeSpec : ChangeSpec := { name := "fnExactAreFree", fn := fun _ => fun
  | [d] => { results := [.lit (.bool true)], args := [d] }
  | _ => none }
def fnExactAreFreeRow : OpenClaim := { program := "ytijgjpfbhbggdaa", sum := "2e814dc910f7a3e8b642afa06633973d7e0a95f65f4766e0a4c88cd119eaa5c7", func := "loop.example/g03104/laws.FnExactAreFree", spec := "fnExactAreFree", unfollowed := true, recurses := true, apart := false }
def FnExactAreFreeSaid : Prop := fnExactAreFreeRow.holds Try.pinned (OpenSpec.ofChange fnExactAreFreeSpec)

/-- ITS FALSE NEIGHBOUR: 'it returns false'. Refute it at one input. -/
def fnExactAreFreeWrong : ChangeSpec := { name := "fnExactAreFree", fn := fun _ => fun
  | [d] => { results := [.lit (.bool false)], args := [d] }
  | _ => none }
def FnExactAreFreeWrongFalsely : Prop := fnExactAreFreeRow.holds Try.pinned (OpenSpec.ofChange fnExactAreFreeWrong)

/-- 'laws.FnExactSmallestTriangle': WHATEVER THE INPUT: true; the input reads as it did. -/
def fnExactSmallestTriangleSpec : ChangeSpec := { name := "fnExactSmallestTriangle", fn := fun _ => fun
  | [d] => { results := [.lit (.bool true)], args := [d] }
  | _ => none }
def fnExactSmallestTriangleRow : OpenClaim := { program := "ytijgjpfbhbggdaa", sum := "2e814dc910f7a3e8b642afa06633973d7e0a95f65f4766e0a4c88cd119eaa5c7", func := "loop.example/g03104/laws.FnExactSmallestTriangle", spec := "fnExactSmallestTriangle", unfollowed := true, recurses := true, apart := false }
def FnExactSmallestTriangleSaid : Prop := fnExactSmallestTriangleRow.holds Try.pinned (OpenSpec.ofChange fnExactSmallestTriangleSpec)

/-- ITS FALSE NEIGHBOUR: 'it returns false'. Refute it at one input. -/
def fnExactSmallestTriangleWrong : ChangeSpec := { name := "fnExactSmallestTriangle", fn := fun _ => fun
  | [d] => { results := [.lit (.bool false)], args := [d] }
  | _ => none }
def FnExactSmallestTriangleWrongFalsely : Prop := fnExactSmallestTriangleRow.holds Try.pinned (OpenSpec.ofChange fnExactSmallestTriangleWrong)

/-- 'laws.FnExactTriangleRow': WHATEVER THE INPUT: true; the input reads as it did. -/
def fnExactTriangleRowSpec : ChangeSpec := { name := "fnExactTriangleRow", fn := fun _ => fun
  | [d] => { results := [.lit (.bool true)], args := [d] }
  | _ => none }
def fnExactTriangleRowRow : OpenClaim := { program := "ytijgjpfbhbggdaa", sum := "2e814dc910f7a3e8b642afa06633973d7e0a95f65f4766e0a4c88cd119eaa5c7", func := "loop.example/g03104/laws.FnExactTriangleRow", spec := "fnExactTriangleRow", unfollowed := true, recurses := true, apart := false }
def FnExactTriangleRowSaid : Prop := fnExactTriangleRowRow.holds Try.pinned (OpenSpec.ofChange fnExactTriangleRowSpec)

/-- ITS FALSE NEIGHBOUR: 'it returns false'. Refute it at one input. -/
def fnExactTriangleRowWrong : ChangeSpec := { name := "fnExactTriangleRow", fn := fun _ => fun
  | [d] => { results := [.lit (.bool false)], args := [d] }
  | _ => none }
def FnExactTriangleRowWrongFalsely : Prop := fnExactTriangleRowRow.holds Try.pinned (OpenSpec.ofChange fnExactTriangleRowWrong)

/-- 'laws.FnExactCountInCircles': WHATEVER THE INPUT: true; the input reads as it did. -/
def fnExactCountInCirclesSpec : ChangeSpec := { name := "fnExactCountInCircles", fn := fun _ => fun
  | [d] => { results := [.lit (.bool true)], args := [d] }
  | _ => none }
def fnExactCountInCirclesRow : OpenClaim := { program := "ytijgjpfbhbggdaa", sum := "2e814dc910f7a3e8b642afa06633973d7e0a95f65f4766e0a4c88cd119eaa5c7", func := "loop.example/g03104/laws.FnExactCountInCircles", spec := "fnExactCountInCircles", unfollowed := true, recurses := true, apart := false }
def FnExactCountInCirclesSaid : Prop := fnExactCountInCirclesRow.holds Try.pinned (OpenSpec.ofChange fnExactCountInCirclesSpec)

/-- ITS FALSE NEIGHBOUR: 'it returns false'. Refute it at one input. -/
def fnExactCountInCirclesWrong : ChangeSpec := { name := "fnExactCountInCircles", fn := fun _ => fun
  | [d] => { results := [.lit (.bool false)], args := [d] }
  | _ => none }
def FnExactCountInCirclesWrongFalsely : Prop := fnExactCountInCirclesRow.holds Try.pinned (OpenSpec.ofChange fnExactCountInCirclesWrong)

/-- 'laws.FnExactRoundTriangles': WHATEVER THE INPUT: true; the input reads as it did. -/
def fnExactRoundTrianglesSpec : ChangeSpec := { name := "fnExactRoundTriangles", fn := fun _ => fun
  | [d] => { results := [.lit (.bool true)], args := [d] }
  | _ => none }
def fnExactRoundTrianglesRow : OpenClaim := { program := "ytijgjpfbhbggdaa", sum := "2e814dc910f7a3e8b642afa06633973d7e0a95f65f4766e0a4c88cd119eaa5c7", func := "loop.example/g03104/laws.FnExactRoundTriangles", spec := "fnExactRoundTriangles", unfollowed := true, recurses := true, apart := false }
def FnExactRoundTrianglesSaid : Prop := fnExactRoundTrianglesRow.holds Try.pinned (OpenSpec.ofChange fnExactRoundTrianglesSpec)

/-- ITS FALSE NEIGHBOUR: 'it returns false'. Refute it at one input. -/
def fnExactRoundTrianglesWrong : ChangeSpec := { name := "fnExactRoundTriangles", fn := fun _ => fun
  | [d] => { results := [.lit (.bool false)], args := [d] }
  | _ => none }
def FnExactRoundTrianglesWrongFalsely : Prop := fnExactRoundTrianglesRow.holds Try.pinned (OpenSpec.ofChange fnExactRoundTrianglesWrong)

/-- 'laws.FnExactRoundEdges': WHATEVER THE INPUT: true; the input reads as it did. -/
def fnExactRoundEdgesSpec : ChangeSpec := { name := "fnExactRoundEdges", fn := fun _ => fun
  | [d] => { results := [.lit (.bool true)], args := [d] }
  | _ => none }
def fnExactRoundEdgesRow : OpenClaim := { program := "ytijgjpfbhbggdaa", sum := "2e814dc910f7a3e8b642afa06633973d7e0a95f65f4766e0a4c88cd119eaa5c7", func := "loop.example/g03104/laws.FnExactRoundEdges", spec := "fnExactRoundEdges", unfollowed := true, recurses := true, apart := false }
def FnExactRoundEdgesSaid : Prop := fnExactRoundEdgesRow.holds Try.pinned (OpenSpec.ofChange fnExactRoundEdgesSpec)

/-- ITS FALSE NEIGHBOUR: 'it returns false'. Refute it at one input. -/
def fnExactRoundEdgesWrong : ChangeSpec := { name := "fnExactRoundEdges", fn := fun _ => fun
  | [d] => { results := [.lit (.bool false)], args := [d] }
  | _ => none }
def FnExactRoundEdgesWrongFalsely : Prop := fnExactRoundEdgesRow.holds Try.pinned (OpenSpec.ofChange fnExactRoundEdgesWrong)

/-- 'laws.FnExactShortestTree': WHATEVER THE INPUT: true; the input reads as it did. -/
def fnExactShortestTreeSpec : ChangeSpec := { name := "fnExactShortestTree", fn := fun _ => fun
  | [d] => { results := [.lit (.bool true)], args := [d] }
  | _ => none }
def fnExactShortestTreeRow : OpenClaim := { program := "ytijgjpfbhbggdaa", sum := "2e814dc910f7a3e8b642afa06633973d7e0a95f65f4766e0a4c88cd119eaa5c7", func := "loop.example/g03104/laws.FnExactShortestTree", spec := "fnExactShortestTree", unfollowed := true, recurses := true, apart := false }
def FnExactShortestTreeSaid : Prop := fnExactShortestTreeRow.holds Try.pinned (OpenSpec.ofChange fnExactShortestTreeSpec)

/-- ITS FALSE NEIGHBOUR: 'it returns false'. Refute it at one input. -/
def fnExactShortestTreeWrong : ChangeSpec := { name := "fnExactShortestTree", fn := fun _ => fun
  | [d] => { results := [.lit (.bool false)], args := [d] }
  | _ => none }
def FnExactShortestTreeWrongFalsely : Prop := fnExactShortestTreeRow.holds Try.pinned (OpenSpec.ofChange fnExactShortestTreeWrong)

/-- 'laws.FnExactCanAdd': WHATEVER THE INPUT: true; the input reads as it did. -/
def fnExactCanAddSpec : ChangeSpec := { name := "fnExactCanAdd", fn := fun _ => fun
  | [d1, d2] => { results := [.lit (.bool true)], args := [d1, d2] }
  | _ => none }
def fnExactCanAddRow : OpenClaim := { program := "ytijgjpfbhbggdaa", sum := "2e814dc910f7a3e8b642afa06633973d7e0a95f65f4766e0a4c88cd119eaa5c7", func := "loop.example/g03104/laws.FnExactCanAdd", spec := "fnExactCanAdd", unfollowed := true, recurses := true, apart := false }
def FnExactCanAddSaid : Prop := fnExactCanAddRow.holds Try.pinned (OpenSpec.ofChange fnExactCanAddSpec)

/-- ITS FALSE NEIGHBOUR: 'it returns false'. Refute it at one input. -/
def fnExactCanAddWrong : ChangeSpec := { name := "fnExactCanAdd", fn := fun _ => fun
  | [d1, d2] => { results := [.lit (.bool false)], args := [d1, d2] }
  | _ => none }
def FnExactCanAddWrongFalsely : Prop := fnExactCanAddRow.holds Try.pinned (OpenSpec.ofChange fnExactCanAddWrong)

/-- 'laws.FnExactEqualSession': WHATEVER THE INPUT: true; the input reads as it did. -/
def fnExactEqualSessionSpec : ChangeSpec := { name := "fnExactEqualSession", fn := fun _ => fun
  | [d1, d2] => { results := [.lit (.bool true)], args := [d1, d2] }
  | _ => none }
def fnExactEqualSessionRow : OpenClaim := { program := "ytijgjpfbhbggdaa", sum := "2e814dc910f7a3e8b642afa06633973d7e0a95f65f4766e0a4c88cd119eaa5c7", func := "loop.example/g03104/laws.FnExactEqualSession", spec := "fnExactEqualSession", apart := false }
def FnExactEqualSessionSaid : Prop := fnExactEqualSessionRow.holds Try.pinned (OpenSpec.ofChange fnExactEqualSessionSpec)

/-- ITS FALSE NEIGHBOUR: 'it returns false'. Refute it at one input. -/
def fnExactEqualSessionWrong : ChangeSpec := { name := "fnExactEqualSession", fn := fun _ => fun
  | [d1, d2] => { results := [.lit (.bool false)], args := [d1, d2] }
  | _ => none }
def FnExactEqualSessionWrongFalsely : Prop := fnExactEqualSessionRow.holds Try.pinned (OpenSpec.ofChange fnExactEqualSessionWrong)

/-- 'laws.FnExactIsGridInside': WHATEVER THE INPUT: true; the input reads as it did. -/
def fnExactIsGridInsideSpec : ChangeSpec := { name := "fnExactIsGridInside", fn := fun _ => fun
  | [d1, d2] => { results := [.lit (.bool true)], args := [d1, d2] }
  | _ => none }
def fnExactIsGridInsideRow : OpenClaim := { program := "ytijgjpfbhbggdaa", sum := "2e814dc910f7a3e8b642afa06633973d7e0a95f65f4766e0a4c88cd119eaa5c7", func := "loop.example/g03104/laws.FnExactIsGridInside", spec := "fnExactIsGridInside", unfollowed := true, recurses := true, apart := false }
def FnExactIsGridInsideSaid : Prop := fnExactIsGridInsideRow.holds Try.pinned (OpenSpec.ofChange fnExactIsGridInsideSpec)

/-- ITS FALSE NEIGHBOUR: 'it returns false'. Refute it at one input. -/
def fnExactIsGridInsideWrong : ChangeSpec := { name := "fnExactIsGridInside", fn := fun _ => fun
  | [d1, d2] => { results := [.lit (.bool false)], args := [d1, d2] }
  | _ => none }
def FnExactIsGridInsideWrongFalsely : Prop := fnExactIsGridInsideRow.holds Try.pinned (OpenSpec.ofChange fnExactIsGridInsideWrong)

/-- 'laws.FnExactEdgePoints': WHATEVER THE INPUT: true; the input reads as it did. -/
def fnExactEdgePointsSpec : ChangeSpec := { name := "fnExactEdgePoints", fn := fun _ => fun
  | [d] => { results := [.lit (.bool true)], args := [d] }
  | _ => none }
def fnExactEdgePointsRow : OpenClaim := { program := "ytijgjpfbhbggdaa", sum := "2e814dc910f7a3e8b642afa06633973d7e0a95f65f4766e0a4c88cd119eaa5c7", func := "loop.example/g03104/laws.FnExactEdgePoints", spec := "fnExactEdgePoints", unfollowed := true, recurses := true, apart := false }
def FnExactEdgePointsSaid : Prop := fnExactEdgePointsRow.holds Try.pinned (OpenSpec.ofChange fnExactEdgePointsSpec)

/-- ITS FALSE NEIGHBOUR: 'it returns false'. Refute it at one input. -/
def fnExactEdgePointsWrong : ChangeSpec := { name := "fnExactEdgePoints", fn := fun _ => fun
  | [d] => { results := [.lit (.bool false)], args := [d] }
  | _ => none }
def FnExactEdgePointsWrongFalsely : Prop := fnExactEdgePointsRow.holds Try.pinned (OpenSpec.ofChange fnExactEdgePointsWrong)

/- THE SECOND FORM. 'bulk': how many values and letters a reading holds, each counted each time it is reached (what is shared counts as often as it is met; a slice's spare places count too). A statement '..UptoSaid' is the law's where the arguments, and the package variables that the reading takes, are together of bulk at most 1048576: NARROWER than '..Said'. Prove '..Said' where nothing that the law and all that it calls make is longer than what came in: it says more and counts as full. Else prove '..UptoSaid'. A law counts once. -/
mutual
def uptoBulk {H : Type} : DataW H → Nat
  | .lit (.string bytes) => bytes.length + 1
  | .lit _ => 1
  | .nil => 1
  | .ptr d => uptoBulk d + 1
  | .slice elems spare => uptoBulkAll elems + uptoBulkAll spare + 1
  | .agg parts => uptoBulkAll parts + 1
  | .iface _ d => uptoBulk d + 1
  | .map entries => uptoBulkEntries entries + 1
  | .held _ => 1
def uptoBulkAll {H : Type} : List (DataW H) → Nat
  | [] => 0
  | d :: r => uptoBulk d + uptoBulkAll r
def uptoBulkEntries {H : Type} : List (Lit × DataW H) → Nat
  | [] => 0
  | x :: r => uptoBulkEntry x + uptoBulkEntries r
def uptoBulkEntry {H : Type} : Lit × DataW H → Nat
  | (.string bytes, d) => bytes.length + uptoBulk d + 1
  | (_, d) => uptoBulk d + 1
 end
def uptoSmall : (H : Type) → List (DataW H) → Bool := fun _ ds => decide (uptoBulkAll ds ≤ 1048576)
def OpenSpec.upto (s : _root_.Go.ChangeSpec) : _root_.Go.OpenSpec := { _root_.Go.OpenSpec.ofChange s with cond := some uptoSmall }

/-- 'laws.FnExactCenterTimes', WHERE WHAT IT READS IS OF BULK AT MOST 1048576: true; the input reads as it did. -/
def fnExactCenterTimesUptoRow : OpenClaim := { program := "ytijgjpfbhbggdaa", sum := "2e814dc910f7a3e8b642afa06633973d7e0a95f65f4766e0a4c88cd119eaa5c7", func := "loop.example/g03104/laws.FnExactCenterTimes", spec := "fnExactCenterTimes", unfollowed := true, recurses := true, apart := false, narrowed := true }
def FnExactCenterTimesUptoSaid : Prop := fnExactCenterTimesUptoRow.holds Try.pinned (OpenSpec.upto fnExactCenterTimesSpec)

/-- 'laws.FnExactAreFree', WHERE WHAT IT READS IS OF BULK AT MOST 1048576: true; the input reads as it did. -/
def fnExactAreFreeUptoRow : OpenClaim := { program := "ytijgjpfbhbggdaa", sum := "2e814dc910f7a3e8b642afa06633973d7e0a95f65f4766e0a4c88cd119eaa5c7", func := "loop.example/g03104/laws.FnExactAreFree", spec := "fnExactAreFree", unfollowed := true, recurses := true, apart := false, narrowed := true }
def FnExactAreFreeUptoSaid : Prop := fnExactAreFreeUptoRow.holds Try.pinned (OpenSpec.upto fnExactAreFreeSpec)

/-- 'laws.FnExactSmallestTriangle', WHERE WHAT IT READS IS OF BULK AT MOST 1048576: true; the input reads as it did. -/
def fnExactSmallestTriangleUptoRow : OpenClaim := { program := "ytijgjpfbhbggdaa", sum := "2e814dc910f7a3e8b642afa06633973d7e0a95f65f4766e0a4c88cd119eaa5c7", func := "loop.example/g03104/laws.FnExactSmallestTriangle", spec := "fnExactSmallestTriangle", unfollowed := true, recurses := true, apart := false, narrowed := true }
def FnExactSmallestTriangleUptoSaid : Prop := fnExactSmallestTriangleUptoRow.holds Try.pinned (OpenSpec.upto fnExactSmallestTriangleSpec)

/-- 'laws.FnExactTriangleRow', WHERE WHAT IT READS IS OF BULK AT MOST 1048576: true; the input reads as it did. -/
def fnExactTriangleRowUptoRow : OpenClaim := { program := "ytijgjpfbhbggdaa", sum := "2e814dc910f7a3e8b642afa06633973d7e0a95f65f4766e0a4c88cd119eaa5c7", func := "loop.example/g03104/laws.FnExactTriangleRow", spec := "fnExactTriangleRow", unfollowed := true, recurses := true, apart := false, narrowed := true }
def FnExactTriangleRowUptoSaid : Prop := fnExactTriangleRowUptoRow.holds Try.pinned (OpenSpec.upto fnExactTriangleRowSpec)

/-- 'laws.FnExactCountInCircles', WHERE WHAT IT READS IS OF BULK AT MOST 1048576: true; the input reads as it did. -/
def fnExactCountInCirclesUptoRow : OpenClaim := { program := "ytijgjpfbhbggdaa", sum := "2e814dc910f7a3e8b642afa06633973d7e0a95f65f4766e0a4c88cd119eaa5c7", func := "loop.example/g03104/laws.FnExactCountInCircles", spec := "fnExactCountInCircles", unfollowed := true, recurses := true, apart := false, narrowed := true }
def FnExactCountInCirclesUptoSaid : Prop := fnExactCountInCirclesUptoRow.holds Try.pinned (OpenSpec.upto fnExactCountInCirclesSpec)

/-- 'laws.FnExactRoundTriangles', WHERE WHAT IT READS IS OF BULK AT MOST 1048576: true; the input reads as it did. -/
def fnExactRoundTrianglesUptoRow : OpenClaim := { program := "ytijgjpfbhbggdaa", sum := "2e814dc910f7a3e8b642afa06633973d7e0a95f65f4766e0a4c88cd119eaa5c7", func := "loop.example/g03104/laws.FnExactRoundTriangles", spec := "fnExactRoundTriangles", unfollowed := true, recurses := true, apart := false, narrowed := true }
def FnExactRoundTrianglesUptoSaid : Prop := fnExactRoundTrianglesUptoRow.holds Try.pinned (OpenSpec.upto fnExactRoundTrianglesSpec)

/-- 'laws.FnExactRoundEdges', WHERE WHAT IT READS IS OF BULK AT MOST 1048576: true; the input reads as it did. -/
def fnExactRoundEdgesUptoRow : OpenClaim := { program := "ytijgjpfbhbggdaa", sum := "2e814dc910f7a3e8b642afa06633973d7e0a95f65f4766e0a4c88cd119eaa5c7", func := "loop.example/g03104/laws.FnExactRoundEdges", spec := "fnExactRoundEdges", unfollowed := true, recurses := true, apart := false, narrowed := true }
def FnExactRoundEdgesUptoSaid : Prop := fnExactRoundEdgesUptoRow.holds Try.pinned (OpenSpec.upto fnExactRoundEdgesSpec)

/-- 'laws.FnExactShortestTree', WHERE WHAT IT READS IS OF BULK AT MOST 1048576: true; the input reads as it did. -/
def fnExactShortestTreeUptoRow : OpenClaim := { program := "ytijgjpfbhbggdaa", sum := "2e814dc910f7a3e8b642afa06633973d7e0a95f65f4766e0a4c88cd119eaa5c7", func := "loop.example/g03104/laws.FnExactShortestTree", spec := "fnExactShortestTree", unfollowed := true, recurses := true, apart := false, narrowed := true }
def FnExactShortestTreeUptoSaid : Prop := fnExactShortestTreeUptoRow.holds Try.pinned (OpenSpec.upto fnExactShortestTreeSpec)

/-- 'laws.FnExactCanAdd', WHERE WHAT IT READS IS OF BULK AT MOST 1048576: true; the input reads as it did. -/
def fnExactCanAddUptoRow : OpenClaim := { program := "ytijgjpfbhbggdaa", sum := "2e814dc910f7a3e8b642afa06633973d7e0a95f65f4766e0a4c88cd119eaa5c7", func := "loop.example/g03104/laws.FnExactCanAdd", spec := "fnExactCanAdd", unfollowed := true, recurses := true, apart := false, narrowed := true }
def FnExactCanAddUptoSaid : Prop := fnExactCanAddUptoRow.holds Try.pinned (OpenSpec.upto fnExactCanAddSpec)

/-- 'laws.FnExactEqualSession', WHERE WHAT IT READS IS OF BULK AT MOST 1048576: true; the input reads as it did. -/
def fnExactEqualSessionUptoRow : OpenClaim := { program := "ytijgjpfbhbggdaa", sum := "2e814dc910f7a3e8b642afa06633973d7e0a95f65f4766e0a4c88cd119eaa5c7", func := "loop.example/g03104/laws.FnExactEqualSession", spec := "fnExactEqualSession", apart := false, narrowed := true }
def FnExactEqualSessionUptoSaid : Prop := fnExactEqualSessionUptoRow.holds Try.pinned (OpenSpec.upto fnExactEqualSessionSpec)

/-- 'laws.FnExactIsGridInside', WHERE WHAT IT READS IS OF BULK AT MOST 1048576: true; the input reads as it did. -/
def fnExactIsGridInsideUptoRow : OpenClaim := { program := "ytijgjpfbhbggdaa", sum := "2e814dc910f7a3e8b642afa06633973d7e0a95f65f4766e0a4c88cd119eaa5c7", func := "loop.example/g03104/laws.FnExactIsGridInside", spec := "fnExactIsGridInside", unfollowed := true, recurses := true, apart := false, narrowed := true }
def FnExactIsGridInsideUptoSaid : Prop := fnExactIsGridInsideUptoRow.holds Try.pinned (OpenSpec.upto fnExactIsGridInsideSpec)

/-- 'laws.FnExactEdgePoints', WHERE WHAT IT READS IS OF BULK AT MOST 1048576: true; the input reads as it did. -/
def fnExactEdgePointsUptoRow : OpenClaim := { program := "ytijgjpfbhbggdaa", sum := "2e814dc910f7a3e8b642afa06633973d7e0a95f65f4766e0a4c88cd119eaa5c7", func := "loop.example/g03104/laws.FnExactEdgePoints", spec := "fnExactEdgePoints", unfollowed := true, recurses := true, apart := false, narrowed := true }
def FnExactEdgePointsUptoSaid : Prop := fnExactEdgePointsUptoRow.holds Try.pinned (OpenSpec.upto fnExactEdgePointsSpec)

end Rows
end Go.Proofs.Ytijgjpfbhbggdaa
