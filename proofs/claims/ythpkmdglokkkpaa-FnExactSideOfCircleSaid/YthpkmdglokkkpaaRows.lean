/-
  No cell of these rows narrows 'for every input' (looked for: loops, veiled, ifaces, maps, wideKeys, modest, calm, conditions, laid).
  DERIVED. THE GIVEN ROWS OF THIS SEAT. 12 by the template 'for every input the law returns true; each argument reads behind the call as it read before'; 0 by the template 'total and deterministic' (their statements: YthpkmdglokkkpaaTotals.lean).
  GIVEN WITH THE SEED: the statements are not yours to turn. If you find one false, say at which input.
  Laid BY PROGRAM, IN A SANDBOX (cutbox-rows.mjs): the forced cells as the released guide's own fill.sh prints them over the translation 4689a2656e95ec05… (all of the seat's roots in one cut). By AI agents, Wed Nov 11 2026. No macro, syntax, notation, axiom, sorry.
-/
import Derived.Test.YthpkmdglokkkpaaChecked
import GoSem.Claim
import GoSem.ClaimJoined
import GoSem.ClaimMapViews
import Derived.JoinedTies
import Derived.KernelRfl
namespace Go.Proofs.Ythpkmdglokkkpaa
/- THE CELL 'sum', in the pinned program and in every row, IS THE sha256 OF THE DUMP (.gsa) THAT YthpkmdglokkkpaaProg.lean LOADS. Nothing in Lean hashes anything: it is a label: what it is worth is what the hold of that sum in a sandbox is worth. -/
noncomputable def Try.pinned : Pinned := { name := "ythpkmdglokkkpaa", sum := "4689a2656e95ec05e72dda692db308b3509e5109b1ffc918188c719bef3622db", checked := Try.checked }
namespace Rows
def none {H : Type} : Left H := { results := [], args := [] }

/-- 'laws.FnExactTripleOf': WHATEVER THE INPUT: true; the input reads as it did. -/
def fnExactTripleOfSpec : ChangeSpec := { name := "fnExactTripleOf", fn := fun _ => fun
  | [d] => { results := [.lit (.bool true)], args := [d] }
  | _ => none }
def fnExactTripleOfRow : OpenClaim := { program := "ythpkmdglokkkpaa", sum := "4689a2656e95ec05e72dda692db308b3509e5109b1ffc918188c719bef3622db", func := "loop.example/g03104/laws.FnExactTripleOf", spec := "fnExactTripleOf", apart := false }
def FnExactTripleOfSaid : Prop := fnExactTripleOfRow.holds Try.pinned (OpenSpec.ofChange fnExactTripleOfSpec)

/-- ITS FALSE NEIGHBOUR: 'it returns false'. Refute it at one input. -/
def fnExactTripleOfWrong : ChangeSpec := { name := "fnExactTripleOf", fn := fun _ => fun
  | [d] => { results := [.lit (.bool false)], args := [d] }
  | _ => none }
def FnExactTripleOfWrongFalsely : Prop := fnExactTripleOfRow.holds Try.pinned (OpenSpec.ofChange fnExactTripleOfWrong)

/-- 'laws.FnExactIsPrime': WHATEVER THE INPUT: true; the input reads as it did. -/
def fnExactIsPrimeSpec : ChangeSpec := { name := "fnExactIsPrime", fn := fun _ => fun
  | [d] => { results := [.lit (.bool true)], args := [d] }
  | _ => none }
def fnExactIsPrimeRow : OpenClaim := { program := "ythpkmdglokkkpaa", sum := "4689a2656e95ec05e72dda692db308b3509e5109b1ffc918188c719bef3622db", func := "loop.example/g03104/laws.FnExactIsPrime", spec := "fnExactIsPrime", apart := false }
def FnExactIsPrimeSaid : Prop := fnExactIsPrimeRow.holds Try.pinned (OpenSpec.ofChange fnExactIsPrimeSpec)

/-- ITS FALSE NEIGHBOUR: 'it returns false'. Refute it at one input. -/
def fnExactIsPrimeWrong : ChangeSpec := { name := "fnExactIsPrime", fn := fun _ => fun
  | [d] => { results := [.lit (.bool false)], args := [d] }
  | _ => none }
def FnExactIsPrimeWrongFalsely : Prop := fnExactIsPrimeRow.holds Try.pinned (OpenSpec.ofChange fnExactIsPrimeWrong)

/-- 'laws.FnExactLengthOf': WHATEVER THE INPUT: true; the input reads as it did. -/
def fnExactLengthOfSpec : ChangeSpec := { name := "fnExactLengthOf", fn := fun _ => fun
  | [d1, d2] => { results := [.lit (.bool true)], args := [d1, d2] }
  | _ => none }
def fnExactLengthOfRow : OpenClaim := { program := "ythpkmdglokkkpaa", sum := "4689a2656e95ec05e72dda692db308b3509e5109b1ffc918188c719bef3622db", func := "loop.example/g03104/laws.FnExactLengthOf", spec := "fnExactLengthOf", unfollowed := true, recurses := true, apart := false }
def FnExactLengthOfSaid : Prop := fnExactLengthOfRow.holds Try.pinned (OpenSpec.ofChange fnExactLengthOfSpec)

/-- ITS FALSE NEIGHBOUR: 'it returns false'. Refute it at one input. -/
def fnExactLengthOfWrong : ChangeSpec := { name := "fnExactLengthOf", fn := fun _ => fun
  | [d1, d2] => { results := [.lit (.bool false)], args := [d1, d2] }
  | _ => none }
def FnExactLengthOfWrongFalsely : Prop := fnExactLengthOfRow.holds Try.pinned (OpenSpec.ofChange fnExactLengthOfWrong)

/-- 'laws.FnExactAreOnOne': WHATEVER THE INPUT: true; the input reads as it did. -/
def fnExactAreOnOneSpec : ChangeSpec := { name := "fnExactAreOnOne", fn := fun _ => fun
  | [d1, d2, d3] => { results := [.lit (.bool true)], args := [d1, d2, d3] }
  | _ => none }
def fnExactAreOnOneRow : OpenClaim := { program := "ythpkmdglokkkpaa", sum := "4689a2656e95ec05e72dda692db308b3509e5109b1ffc918188c719bef3622db", func := "loop.example/g03104/laws.FnExactAreOnOne", spec := "fnExactAreOnOne", unfollowed := true, recurses := true, apart := false }
def FnExactAreOnOneSaid : Prop := fnExactAreOnOneRow.holds Try.pinned (OpenSpec.ofChange fnExactAreOnOneSpec)

/-- ITS FALSE NEIGHBOUR: 'it returns false'. Refute it at one input. -/
def fnExactAreOnOneWrong : ChangeSpec := { name := "fnExactAreOnOne", fn := fun _ => fun
  | [d1, d2, d3] => { results := [.lit (.bool false)], args := [d1, d2, d3] }
  | _ => none }
def FnExactAreOnOneWrongFalsely : Prop := fnExactAreOnOneRow.holds Try.pinned (OpenSpec.ofChange fnExactAreOnOneWrong)

/-- 'laws.FnExactAreApart': WHATEVER THE INPUT: true; the input reads as it did. -/
def fnExactAreApartSpec : ChangeSpec := { name := "fnExactAreApart", fn := fun _ => fun
  | [d1, d2] => { results := [.lit (.bool true)], args := [d1, d2] }
  | _ => none }
def fnExactAreApartRow : OpenClaim := { program := "ythpkmdglokkkpaa", sum := "4689a2656e95ec05e72dda692db308b3509e5109b1ffc918188c719bef3622db", func := "loop.example/g03104/laws.FnExactAreApart", spec := "fnExactAreApart", apart := false }
def FnExactAreApartSaid : Prop := fnExactAreApartRow.holds Try.pinned (OpenSpec.ofChange fnExactAreApartSpec)

/-- ITS FALSE NEIGHBOUR: 'it returns false'. Refute it at one input. -/
def fnExactAreApartWrong : ChangeSpec := { name := "fnExactAreApart", fn := fun _ => fun
  | [d1, d2] => { results := [.lit (.bool false)], args := [d1, d2] }
  | _ => none }
def FnExactAreApartWrongFalsely : Prop := fnExactAreApartRow.holds Try.pinned (OpenSpec.ofChange fnExactAreApartWrong)

/-- 'laws.FnExactOnEdge': WHATEVER THE INPUT: true; the input reads as it did. -/
def fnExactOnEdgeSpec : ChangeSpec := { name := "fnExactOnEdge", fn := fun _ => fun
  | [d1, d2] => { results := [.lit (.bool true)], args := [d1, d2] }
  | _ => none }
def fnExactOnEdgeRow : OpenClaim := { program := "ythpkmdglokkkpaa", sum := "4689a2656e95ec05e72dda692db308b3509e5109b1ffc918188c719bef3622db", func := "loop.example/g03104/laws.FnExactOnEdge", spec := "fnExactOnEdge", unfollowed := true, recurses := true, apart := false }
def FnExactOnEdgeSaid : Prop := fnExactOnEdgeRow.holds Try.pinned (OpenSpec.ofChange fnExactOnEdgeSpec)

/-- ITS FALSE NEIGHBOUR: 'it returns false'. Refute it at one input. -/
def fnExactOnEdgeWrong : ChangeSpec := { name := "fnExactOnEdge", fn := fun _ => fun
  | [d1, d2] => { results := [.lit (.bool false)], args := [d1, d2] }
  | _ => none }
def FnExactOnEdgeWrongFalsely : Prop := fnExactOnEdgeRow.holds Try.pinned (OpenSpec.ofChange fnExactOnEdgeWrong)

/-- 'laws.FnExactConvexSigns': WHATEVER THE INPUT: true; the input reads as it did. -/
def fnExactConvexSignsSpec : ChangeSpec := { name := "fnExactConvexSigns", fn := fun _ => fun
  | [d] => { results := [.lit (.bool true)], args := [d] }
  | _ => none }
def fnExactConvexSignsRow : OpenClaim := { program := "ythpkmdglokkkpaa", sum := "4689a2656e95ec05e72dda692db308b3509e5109b1ffc918188c719bef3622db", func := "loop.example/g03104/laws.FnExactConvexSigns", spec := "fnExactConvexSigns", apart := false }
def FnExactConvexSignsSaid : Prop := fnExactConvexSignsRow.holds Try.pinned (OpenSpec.ofChange fnExactConvexSignsSpec)

/-- ITS FALSE NEIGHBOUR: 'it returns false'. Refute it at one input. -/
def fnExactConvexSignsWrong : ChangeSpec := { name := "fnExactConvexSigns", fn := fun _ => fun
  | [d] => { results := [.lit (.bool false)], args := [d] }
  | _ => none }
def FnExactConvexSignsWrongFalsely : Prop := fnExactConvexSignsRow.holds Try.pinned (OpenSpec.ofChange fnExactConvexSignsWrong)

/-- 'laws.FnExactExampleLines': WHATEVER THE INPUT: true; the input reads as it did. -/
def fnExactExampleLinesSpec : ChangeSpec := { name := "fnExactExampleLines", fn := fun _ => fun
  | [d] => { results := [.lit (.bool true)], args := [d] }
  | _ => none }
def fnExactExampleLinesRow : OpenClaim := { program := "ythpkmdglokkkpaa", sum := "4689a2656e95ec05e72dda692db308b3509e5109b1ffc918188c719bef3622db", func := "loop.example/g03104/laws.FnExactExampleLines", spec := "fnExactExampleLines", apart := false }
def FnExactExampleLinesSaid : Prop := fnExactExampleLinesRow.holds Try.pinned (OpenSpec.ofChange fnExactExampleLinesSpec)

/-- ITS FALSE NEIGHBOUR: 'it returns false'. Refute it at one input. -/
def fnExactExampleLinesWrong : ChangeSpec := { name := "fnExactExampleLines", fn := fun _ => fun
  | [d] => { results := [.lit (.bool false)], args := [d] }
  | _ => none }
def FnExactExampleLinesWrongFalsely : Prop := fnExactExampleLinesRow.holds Try.pinned (OpenSpec.ofChange fnExactExampleLinesWrong)

/-- 'laws.FnExactAllApart': WHATEVER THE INPUT: true; the input reads as it did. -/
def fnExactAllApartSpec : ChangeSpec := { name := "fnExactAllApart", fn := fun _ => fun
  | [d] => { results := [.lit (.bool true)], args := [d] }
  | _ => none }
def fnExactAllApartRow : OpenClaim := { program := "ythpkmdglokkkpaa", sum := "4689a2656e95ec05e72dda692db308b3509e5109b1ffc918188c719bef3622db", func := "loop.example/g03104/laws.FnExactAllApart", spec := "fnExactAllApart", apart := false }
def FnExactAllApartSaid : Prop := fnExactAllApartRow.holds Try.pinned (OpenSpec.ofChange fnExactAllApartSpec)

/-- ITS FALSE NEIGHBOUR: 'it returns false'. Refute it at one input. -/
def fnExactAllApartWrong : ChangeSpec := { name := "fnExactAllApart", fn := fun _ => fun
  | [d] => { results := [.lit (.bool false)], args := [d] }
  | _ => none }
def FnExactAllApartWrongFalsely : Prop := fnExactAllApartRow.holds Try.pinned (OpenSpec.ofChange fnExactAllApartWrong)

/-- 'laws.FnExactCrossOf': WHATEVER THE INPUT: true; the input reads as it did. -/
def fnExactCrossOfSpec : ChangeSpec := { name := "fnExactCrossOf", fn := fun _ => fun
  | [d1, d2] => { results := [.lit (.bool true)], args := [d1, d2] }
  | _ => none }
def fnExactCrossOfRow : OpenClaim := { program := "ythpkmdglokkkpaa", sum := "4689a2656e95ec05e72dda692db308b3509e5109b1ffc918188c719bef3622db", func := "loop.example/g03104/laws.FnExactCrossOf", spec := "fnExactCrossOf", unfollowed := true, recurses := true, apart := false }
def FnExactCrossOfSaid : Prop := fnExactCrossOfRow.holds Try.pinned (OpenSpec.ofChange fnExactCrossOfSpec)

/-- ITS FALSE NEIGHBOUR: 'it returns false'. Refute it at one input. -/
def fnExactCrossOfWrong : ChangeSpec := { name := "fnExactCrossOf", fn := fun _ => fun
  | [d1, d2] => { results := [.lit (.bool false)], args := [d1, d2] }
  | _ => none }
def FnExactCrossOfWrongFalsely : Prop := fnExactCrossOfRow.holds Try.pinned (OpenSpec.ofChange fnExactCrossOfWrong)

/-- 'laws.FnExactSideOfCircle': WHATEVER THE INPUT: true; the input reads as it did. -/
def fnExactSideOfCircleSpec : ChangeSpec := { name := "fnExactSideOfCircle", fn := fun _ => fun
  | [d1, d2, d3, d4] => { results := [.lit (.bool true)], args := [d1, d2, d3, d4] }
  | _ => none }
def fnExactSideOfCircleRow : OpenClaim := { program := "ythpkmdglokkkpaa", sum := "4689a2656e95ec05e72dda692db308b3509e5109b1ffc918188c719bef3622db", func := "loop.example/g03104/laws.FnExactSideOfCircle", spec := "fnExactSideOfCircle", unfollowed := true, recurses := true, apart := false }
def FnExactSideOfCircleSaid : Prop := fnExactSideOfCircleRow.holds Try.pinned (OpenSpec.ofChange fnExactSideOfCircleSpec)

/-- ITS FALSE NEIGHBOUR: 'it returns false'. Refute it at one input. -/
def fnExactSideOfCircleWrong : ChangeSpec := { name := "fnExactSideOfCircle", fn := fun _ => fun
  | [d1, d2, d3, d4] => { results := [.lit (.bool false)], args := [d1, d2, d3, d4] }
  | _ => none }
def FnExactSideOfCircleWrongFalsely : Prop := fnExactSideOfCircleRow.holds Try.pinned (OpenSpec.ofChange fnExactSideOfCircleWrong)

/-- 'laws.FnExactWithoutLine': WHATEVER THE INPUT: true; the input reads as it did. -/
def fnExactWithoutLineSpec : ChangeSpec := { name := "fnExactWithoutLine", fn := fun _ => fun
  | [d1, d2] => { results := [.lit (.bool true)], args := [d1, d2] }
  | _ => none }
def fnExactWithoutLineRow : OpenClaim := { program := "ythpkmdglokkkpaa", sum := "4689a2656e95ec05e72dda692db308b3509e5109b1ffc918188c719bef3622db", func := "loop.example/g03104/laws.FnExactWithoutLine", spec := "fnExactWithoutLine", unfollowed := true, recurses := true, apart := false }
def FnExactWithoutLineSaid : Prop := fnExactWithoutLineRow.holds Try.pinned (OpenSpec.ofChange fnExactWithoutLineSpec)

/-- ITS FALSE NEIGHBOUR: 'it returns false'. Refute it at one input. -/
def fnExactWithoutLineWrong : ChangeSpec := { name := "fnExactWithoutLine", fn := fun _ => fun
  | [d1, d2] => { results := [.lit (.bool false)], args := [d1, d2] }
  | _ => none }
def FnExactWithoutLineWrongFalsely : Prop := fnExactWithoutLineRow.holds Try.pinned (OpenSpec.ofChange fnExactWithoutLineWrong)

/- THE SECOND FORM. 'bulk': how many values and letters a reading holds, each counted each time it is reached (what is shared counts as often as it is met; a slice's spare places count too). A statement '..UptoSaid' is the law's where the arguments, and the package variables that the reading takes, are together of bulk at most 1048576: NARROWER than '..Said'. Prove '..Said' where nothing that the law and all that it calls make is longer than what came in: it says more and counts as full. Else prove '..UptoSaid'. A law counts once. -/
mutual
def uptoBulk {H : Type} : DataW H → Nat
  | .lit (.string bytes) => bytes.length + 1
  | .lit _ => 1
  | .nil => 1
  | .ptr d => uptoBulk d + 1
  | .slice elems spare => uptoBulkAll elems + uptoBulkAll spare + 1
  | .agg parts => uptoBulkAll parts + 1
  | .iface _ d => uptoBulk d + 1
  | .map entries => uptoBulkEntries entries + 1
  | .held _ => 1
def uptoBulkAll {H : Type} : List (DataW H) → Nat
  | [] => 0
  | d :: r => uptoBulk d + uptoBulkAll r
def uptoBulkEntries {H : Type} : List (Lit × DataW H) → Nat
  | [] => 0
  | x :: r => uptoBulkEntry x + uptoBulkEntries r
def uptoBulkEntry {H : Type} : Lit × DataW H → Nat
  | (.string bytes, d) => bytes.length + uptoBulk d + 1
  | (_, d) => uptoBulk d + 1
 end
def uptoSmall : (H : Type) → List (DataW H) → Bool := fun _ ds => decide (uptoBulkAll ds ≤ 1048576)
def OpenSpec.upto (s : _root_.Go.ChangeSpec) : _root_.Go.OpenSpec := { _root_.Go.OpenSpec.ofChange s with cond := some uptoSmall }

/-- 'laws.FnExactTripleOf', WHERE WHAT IT READS IS OF BULK AT MOST 1048576: true; the input reads as it did. -/
def fnExactTripleOfUptoRow : OpenClaim := { program := "ythpkmdglokkkpaa", sum := "4689a2656e95ec05e72dda692db308b3509e5109b1ffc918188c719bef3622db", func := "loop.example/g03104/laws.FnExactTripleOf", spec := "fnExactTripleOf", apart := false, narrowed := true }
def FnExactTripleOfUptoSaid : Prop := fnExactTripleOfUptoRow.holds Try.pinned (OpenSpec.upto fnExactTripleOfSpec)

/-- 'laws.FnExactIsPrime', WHERE WHAT IT READS IS OF BULK AT MOST 1048576: true; the input reads as it did. -/
def fnExactIsPrimeUptoRow : OpenClaim := { program := "ythpkmdglokkkpaa", sum := "4689a2656e95ec05e72dda692db308b3509e5109b1ffc918188c719bef3622db", func := "loop.example/g03104/laws.FnExactIsPrime", spec := "fnExactIsPrime", apart := false, narrowed := true }
def FnExactIsPrimeUptoSaid : Prop := fnExactIsPrimeUptoRow.holds Try.pinned (OpenSpec.upto fnExactIsPrimeSpec)

/-- 'laws.FnExactLengthOf', WHERE WHAT IT READS IS OF BULK AT MOST 1048576: true; the input reads as it did. -/
def fnExactLengthOfUptoRow : OpenClaim := { program := "ythpkmdglokkkpaa", sum := "4689a2656e95ec05e72dda692db308b3509e5109b1ffc918188c719bef3622db", func := "loop.example/g03104/laws.FnExactLengthOf", spec := "fnExactLengthOf", unfollowed := true, recurses := true, apart := false, narrowed := true }
def FnExactLengthOfUptoSaid : Prop := fnExactLengthOfUptoRow.holds Try.pinned (OpenSpec.upto fnExactLengthOfSpec)

/-- 'laws.FnExactAreOnOne', WHERE WHAT IT READS IS OF BULK AT MOST 1048576: true; the input reads as it did. -/
def fnExactAreOnOneUptoRow : OpenClaim := { program := "ythpkmdglokkkpaa", sum := "4689a2656e95ec05e72dda692db308b3509e5109b1ffc918188c719bef3622db", func := "loop.example/g03104/laws.FnExactAreOnOne", spec := "fnExactAreOnOne", unfollowed := true, recurses := true, apart := false, narrowed := true }
def FnExactAreOnOneUptoSaid : Prop := fnExactAreOnOneUptoRow.holds Try.pinned (OpenSpec.upto fnExactAreOnOneSpec)

/-- 'laws.FnExactAreApart', WHERE WHAT IT READS IS OF BULK AT MOST 1048576: true; the input reads as it did. -/
def fnExactAreApartUptoRow : OpenClaim := { program := "ythpkmdglokkkpaa", sum := "4689a2656e95ec05e72dda692db308b3509e5109b1ffc918188c719bef3622db", func := "loop.example/g03104/laws.FnExactAreApart", spec := "fnExactAreApart", apart := false, narrowed := true }
def FnExactAreApartUptoSaid : Prop := fnExactAreApartUptoRow.holds Try.pinned (OpenSpec.upto fnExactAreApartSpec)

/-- 'laws.FnExactOnEdge', WHERE WHAT IT READS IS OF BULK AT MOST 1048576: true; the input reads as it did. -/
def fnExactOnEdgeUptoRow : OpenClaim := { program := "ythpkmdglokkkpaa", sum := "4689a2656e95ec05e72dda692db308b3509e5109b1ffc918188c719bef3622db", func := "loop.example/g03104/laws.FnExactOnEdge", spec := "fnExactOnEdge", unfollowed := true, recurses := true, apart := false, narrowed := true }
def FnExactOnEdgeUptoSaid : Prop := fnExactOnEdgeUptoRow.holds Try.pinned (OpenSpec.upto fnExactOnEdgeSpec)

/-- 'laws.FnExactConvexSigns', WHERE WHAT IT READS IS OF BULK AT MOST 1048576: true; the input reads as it did. -/
def fnExactConvexSignsUptoRow : OpenClaim := { program := "ythpkmdglokkkpaa", sum := "4689a2656e95ec05e72dda692db308b3509e5109b1ffc918188c719bef3622db", func := "loop.example/g03104/laws.FnExactConvexSigns", spec := "fnExactConvexSigns", apart := false, narrowed := true }
def FnExactConvexSignsUptoSaid : Prop := fnExactConvexSignsUptoRow.holds Try.pinned (OpenSpec.upto fnExactConvexSignsSpec)

/-- 'laws.FnExactExampleLines', WHERE WHAT IT READS IS OF BULK AT MOST 1048576: true; the input reads as it did. -/
def fnExactExampleLinesUptoRow : OpenClaim := { program := "ythpkmdglokkkpaa", sum := "4689a2656e95ec05e72dda692db308b3509e5109b1ffc918188c719bef3622db", func := "loop.example/g03104/laws.FnExactExampleLines", spec := "fnExactExampleLines", apart := false, narrowed := true }
def FnExactExampleLinesUptoSaid : Prop := fnExactExampleLinesUptoRow.holds Try.pinned (OpenSpec.upto fnExactExampleLinesSpec)

/-- 'laws.FnExactAllApart', WHERE WHAT IT READS IS OF BULK AT MOST 1048576: true; the input reads as it did. -/
def fnExactAllApartUptoRow : OpenClaim := { program := "ythpkmdglokkkpaa", sum := "4689a2656e95ec05e72dda692db308b3509e5109b1ffc918188c719bef3622db", func := "loop.example/g03104/laws.FnExactAllApart", spec := "fnExactAllApart", apart := false, narrowed := true }
def FnExactAllApartUptoSaid : Prop := fnExactAllApartUptoRow.holds Try.pinned (OpenSpec.upto fnExactAllApartSpec)

/-- 'laws.FnExactCrossOf', WHERE WHAT IT READS IS OF BULK AT MOST 1048576: true; the input reads as it did. -/
def fnExactCrossOfUptoRow : OpenClaim := { program := "ythpkmdglokkkpaa", sum := "4689a2656e95ec05e72dda692db308b3509e5109b1ffc918188c719bef3622db", func := "loop.example/g03104/laws.FnExactCrossOf", spec := "fnExactCrossOf", unfollowed := true, recurses := true, apart := false, narrowed := true }
def FnExactCrossOfUptoSaid : Prop := fnExactCrossOfUptoRow.holds Try.pinned (OpenSpec.upto fnExactCrossOfSpec)

/-- 'laws.FnExactSideOfCircle', WHERE WHAT IT READS IS OF BULK AT MOST 1048576: true; the input reads as it did. -/
def fnExactSideOfCircleUptoRow : OpenClaim := { program := "ythpkmdglokkkpaa", sum := "4689a2656e95ec05e72dda692db308b3509e5109b1ffc918188c719bef3622db", func := "loop.example/g03104/laws.FnExactSideOfCircle", spec := "fnExactSideOfCircle", unfollowed := true, recurses := true, apart := false, narrowed := true }
def FnExactSideOfCircleUptoSaid : Prop := fnExactSideOfCircleUptoRow.holds Try.pinned (OpenSpec.upto fnExactSideOfCircleSpec)

/-- 'laws.FnExactWithoutLine', WHERE WHAT IT READS IS OF BULK AT MOST 1048576: true; the input reads as it did. -/
def fnExactWithoutLineUptoRow : OpenClaim := { program := "ythpkmdglokkkpaa", sum := "4689a2656e95ec05e72dda692db308b3509e5109b1ffc918188c719bef3622db", func := "loop.example/g03104/laws.FnExactWithoutLine", spec := "fnExactWithoutLine", unfollowed := true, recurses := true, apart := false, narrowed := true }
def FnExactWithoutLineUptoSaid : Prop := fnExactWithoutLineUptoRow.holds Try.pinned (OpenSpec.upto fnExactWithoutLineSpec)

end Rows
end Go.Proofs.Ythpkmdglokkkpaa
