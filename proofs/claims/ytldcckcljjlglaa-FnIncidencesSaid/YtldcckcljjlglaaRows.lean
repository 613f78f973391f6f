/-
  No cell of these rows narrows 'for every input' (looked for: loops, veiled, ifaces, maps, wideKeys, modest, calm, conditions, laid).
  DERIVED. THE GIVEN ROWS OF THIS SEAT. 12 by the template 'for every input the law returns true; each argument reads behind the call as it read before'; 0 by the template 'total and deterministic' (their statements: YtldcckcljjlglaaTotals.lean).
  GIVEN WITH THE SEED: the statements are not yours to turn. If you find one false, say at which input.
  Laid BY PROGRAM, IN A SANDBOX (cutbox-rows.mjs): the forced cells as the released guide's own fill.sh prints them over the translation 432a63c897f155c9… (all of the seat's roots in one cut). By AI agents, Wed Nov 11 2026. No macro, syntax, notation, axiom, sorry.
-/
import Derived.Test.YtldcckcljjlglaaChecked
import GoSem.Claim
import GoSem.ClaimJoined
import GoSem.ClaimMapViews
import Derived.JoinedTies
import Derived.KernelRfl
namespace Go.Proofs.Ytldcckcljjlglaa
/- THE CELL 'sum', in the pinned program and in every row, IS THE sha256 OF THE DUMP (.gsa) THAT YtldcckcljjlglaaProg.lean LOADS. Nothing in Lean hashes anything: it is a label: what it is worth is what the hold of that sum in a sandbox is worth. -/
noncomputable def Try.pinned : Pinned := { name := "ytldcckcljjlglaa", sum := "432a63c897f155c9d0cfd33e63baf635e4f6bd9bd6da9632d4091cdf99d75208", checked := Try.checked }
namespace Rows
def none {H : Type} : Left H := { results := [], args := [] }

/-- 'laws.FnExactCountFree': WHATEVER THE INPUT: true; the input reads as it did. -/
def fnExactCountFreeSpec : ChangeSpec := { name := "fnExactCountFree", fn := fun _ => fun
  | [d1, d2] => { results := [.lit (.bool true)], args := [d1, d2] }
  | _ => none }
def fnExactCountFreeRow : OpenClaim := { program := "ytldcckcljjlglaa", sum := "432a63c897f155c9d0cfd33e63baf635e4f6bd9bd6da9632d4091cdf99d75208", func := "loop.example/g03104/laws.FnExactCountFree", spec := "fnExactCountFree", unfollowed := true, recurses := true, plainKeys := false, apart := false }
def FnExactCountFreeSaid : Prop := fnExactCountFreeRow.holds Try.pinned (OpenSpec.ofChange fnExactCountFreeSpec)

/-- ITS FALSE NEIGHBOUR: 'it returns false'. Refute it at one input. -/
def fnExactCountFreeWrong : ChangeSpec := { name := "fnExactCountFree", fn := fun _ => fun
  | [d1, d2] => { results := [.lit (.bool false)], args := [d1, d2] }
  | _ => none }
def FnExactCountFreeWrongFalsely : Prop := fnExactCountFreeRow.holds Try.pinned (OpenSpec.ofChange fnExactCountFreeWrong)

/-- 'laws.FnExactOnRow': WHATEVER THE INPUT: true; the input reads as it did. -/
def fnExactOnRowSpec : ChangeSpec := { name := "fnExactOnRow", fn := fun _ => fun
  | [d1, d2] => { results := [.lit (.bool true)], args := [d1, d2] }
  | _ => none }
def fnExactOnRowRow : OpenClaim := { program := "ytldcckcljjlglaa", sum := "432a63c897f155c9d0cfd33e63baf635e4f6bd9bd6da9632d4091cdf99d75208", func := "loop.example/g03104/laws.FnExactOnRow", spec := "fnExactOnRow", unfollowed := true, recurses := true, plainKeys := false, apart := false }
def FnExactOnRowSaid : Prop := fnExactOnRowRow.holds Try.pinned (OpenSpec.ofChange fnExactOnRowSpec)

/-- ITS FALSE NEIGHBOUR: 'it returns false'. Refute it at one input. -/
def fnExactOnRowWrong : ChangeSpec := { name := "fnExactOnRow", fn := fun _ => fun
  | [d1, d2] => { results := [.lit (.bool false)], args := [d1, d2] }
  | _ => none }
def FnExactOnRowWrongFalsely : Prop := fnExactOnRowRow.holds Try.pinned (OpenSpec.ofChange fnExactOnRowWrong)

/-- 'laws.FnExactPointsOn': WHATEVER THE INPUT: true; the input reads as it did. -/
def fnExactPointsOnSpec : ChangeSpec := { name := "fnExactPointsOn", fn := fun _ => fun
  | [d1, d2] => { results := [.lit (.bool true)], args := [d1, d2] }
  | _ => none }
def fnExactPointsOnRow : OpenClaim := { program := "ytldcckcljjlglaa", sum := "432a63c897f155c9d0cfd33e63baf635e4f6bd9bd6da9632d4091cdf99d75208", func := "loop.example/g03104/laws.FnExactPointsOn", spec := "fnExactPointsOn", unfollowed := true, recurses := true, plainKeys := false, apart := false }
def FnExactPointsOnSaid : Prop := fnExactPointsOnRow.holds Try.pinned (OpenSpec.ofChange fnExactPointsOnSpec)

/-- ITS FALSE NEIGHBOUR: 'it returns false'. Refute it at one input. -/
def fnExactPointsOnWrong : ChangeSpec := { name := "fnExactPointsOn", fn := fun _ => fun
  | [d1, d2] => { results := [.lit (.bool false)], args := [d1, d2] }
  | _ => none }
def FnExactPointsOnWrongFalsely : Prop := fnExactPointsOnRow.holds Try.pinned (OpenSpec.ofChange fnExactPointsOnWrong)

/-- 'laws.FnExactPolyAtPrime': WHATEVER THE INPUT: true; the input reads as it did. -/
def fnExactPolyAtPrimeSpec : ChangeSpec := { name := "fnExactPolyAtPrime", fn := fun _ => fun
  | [d1, d2] => { results := [.lit (.bool true)], args := [d1, d2] }
  | _ => none }
def fnExactPolyAtPrimeRow : OpenClaim := { program := "ytldcckcljjlglaa", sum := "432a63c897f155c9d0cfd33e63baf635e4f6bd9bd6da9632d4091cdf99d75208", func := "loop.example/g03104/laws.FnExactPolyAtPrime", spec := "fnExactPolyAtPrime", unfollowed := true, recurses := true, plainKeys := false, apart := false }
def FnExactPolyAtPrimeSaid : Prop := fnExactPolyAtPrimeRow.holds Try.pinned (OpenSpec.ofChange fnExactPolyAtPrimeSpec)

/-- ITS FALSE NEIGHBOUR: 'it returns false'. Refute it at one input. -/
def fnExactPolyAtPrimeWrong : ChangeSpec := { name := "fnExactPolyAtPrime", fn := fun _ => fun
  | [d1, d2] => { results := [.lit (.bool false)], args := [d1, d2] }
  | _ => none }
def FnExactPolyAtPrimeWrongFalsely : Prop := fnExactPolyAtPrimeRow.holds Try.pinned (OpenSpec.ofChange fnExactPolyAtPrimeWrong)

/-- 'laws.FnExactCountBounded': WHATEVER THE INPUT: true; the input reads as it did. -/
def fnExactCountBoundedSpec : ChangeSpec := { name := "fnExactCountBounded", fn := fun _ => fun
  | [d] => { results := [.lit (.bool true)], args := [d] }
  | _ => none }
def fnExactCountBoundedRow : OpenClaim := { program := "ytldcckcljjlglaa", sum := "432a63c897f155c9d0cfd33e63baf635e4f6bd9bd6da9632d4091cdf99d75208", func := "loop.example/g03104/laws.FnExactCountBounded", spec := "fnExactCountBounded", unfollowed := true, recurses := true, plainKeys := false, apart := false }
def FnExactCountBoundedSaid : Prop := fnExactCountBoundedRow.holds Try.pinned (OpenSpec.ofChange fnExactCountBoundedSpec)

/-- ITS FALSE NEIGHBOUR: 'it returns false'. Refute it at one input. -/
def fnExactCountBoundedWrong : ChangeSpec := { name := "fnExactCountBounded", fn := fun _ => fun
  | [d] => { results := [.lit (.bool false)], args := [d] }
  | _ => none }
def FnExactCountBoundedWrongFalsely : Prop := fnExactCountBoundedRow.holds Try.pinned (OpenSpec.ofChange fnExactCountBoundedWrong)

/-- 'laws.FnExactLinePoly': WHATEVER THE INPUT: true; the input reads as it did. -/
def fnExactLinePolySpec : ChangeSpec := { name := "fnExactLinePoly", fn := fun _ => fun
  | [d] => { results := [.lit (.bool true)], args := [d] }
  | _ => none }
def fnExactLinePolyRow : OpenClaim := { program := "ytldcckcljjlglaa", sum := "432a63c897f155c9d0cfd33e63baf635e4f6bd9bd6da9632d4091cdf99d75208", func := "loop.example/g03104/laws.FnExactLinePoly", spec := "fnExactLinePoly", unfollowed := true, recurses := true, plainKeys := false, apart := false }
def FnExactLinePolySaid : Prop := fnExactLinePolyRow.holds Try.pinned (OpenSpec.ofChange fnExactLinePolySpec)

/-- ITS FALSE NEIGHBOUR: 'it returns false'. Refute it at one input. -/
def fnExactLinePolyWrong : ChangeSpec := { name := "fnExactLinePoly", fn := fun _ => fun
  | [d] => { results := [.lit (.bool false)], args := [d] }
  | _ => none }
def FnExactLinePolyWrongFalsely : Prop := fnExactLinePolyRow.holds Try.pinned (OpenSpec.ofChange fnExactLinePolyWrong)

/-- 'laws.FnLines': WHATEVER THE INPUT: true; the input reads as it did. -/
def fnLinesSpec : ChangeSpec := { name := "fnLines", fn := fun _ => fun
  | [d] => { results := [.lit (.bool true)], args := [d] }
  | _ => none }
def fnLinesRow : OpenClaim := { program := "ytldcckcljjlglaa", sum := "432a63c897f155c9d0cfd33e63baf635e4f6bd9bd6da9632d4091cdf99d75208", func := "loop.example/g03104/laws.FnLines", spec := "fnLines", unfollowed := true, recurses := true, plainKeys := false, apart := false }
def FnLinesSaid : Prop := fnLinesRow.holds Try.pinned (OpenSpec.ofChange fnLinesSpec)

/-- ITS FALSE NEIGHBOUR: 'it returns false'. Refute it at one input. -/
def fnLinesWrong : ChangeSpec := { name := "fnLines", fn := fun _ => fun
  | [d] => { results := [.lit (.bool false)], args := [d] }
  | _ => none }
def FnLinesWrongFalsely : Prop := fnLinesRow.holds Try.pinned (OpenSpec.ofChange fnLinesWrong)

/-- 'laws.FnFields': WHATEVER THE INPUT: true; the input reads as it did. -/
def fnFieldsSpec : ChangeSpec := { name := "fnFields", fn := fun _ => fun
  | [d] => { results := [.lit (.bool true)], args := [d] }
  | _ => none }
def fnFieldsRow : OpenClaim := { program := "ytldcckcljjlglaa", sum := "432a63c897f155c9d0cfd33e63baf635e4f6bd9bd6da9632d4091cdf99d75208", func := "loop.example/g03104/laws.FnFields", spec := "fnFields", unfollowed := true, recurses := true, plainKeys := false, apart := false }
def FnFieldsSaid : Prop := fnFieldsRow.holds Try.pinned (OpenSpec.ofChange fnFieldsSpec)

/-- ITS FALSE NEIGHBOUR: 'it returns false'. Refute it at one input. -/
def fnFieldsWrong : ChangeSpec := { name := "fnFields", fn := fun _ => fun
  | [d] => { results := [.lit (.bool false)], args := [d] }
  | _ => none }
def FnFieldsWrongFalsely : Prop := fnFieldsRow.holds Try.pinned (OpenSpec.ofChange fnFieldsWrong)

/-- 'laws.FnExactArePerspective': WHATEVER THE INPUT: true; the input reads as it did. -/
def fnExactArePerspectiveSpec : ChangeSpec := { name := "fnExactArePerspective", fn := fun _ => fun
  | [d] => { results := [.lit (.bool true)], args := [d] }
  | _ => none }
def fnExactArePerspectiveRow : OpenClaim := { program := "ytldcckcljjlglaa", sum := "432a63c897f155c9d0cfd33e63baf635e4f6bd9bd6da9632d4091cdf99d75208", func := "loop.example/g03104/laws.FnExactArePerspective", spec := "fnExactArePerspective", unfollowed := true, recurses := true, plainKeys := false, apart := false }
def FnExactArePerspectiveSaid : Prop := fnExactArePerspectiveRow.holds Try.pinned (OpenSpec.ofChange fnExactArePerspectiveSpec)

/-- ITS FALSE NEIGHBOUR: 'it returns false'. Refute it at one input. -/
def fnExactArePerspectiveWrong : ChangeSpec := { name := "fnExactArePerspective", fn := fun _ => fun
  | [d] => { results := [.lit (.bool false)], args := [d] }
  | _ => none }
def FnExactArePerspectiveWrongFalsely : Prop := fnExactArePerspectiveRow.holds Try.pinned (OpenSpec.ofChange fnExactArePerspectiveWrong)

/-- 'laws.FnExactPappusOf': WHATEVER THE INPUT: true; the input reads as it did. -/
def fnExactPappusOfSpec : ChangeSpec := { name := "fnExactPappusOf", fn := fun _ => fun
  | [d] => { results := [.lit (.bool true)], args := [d] }
  | _ => none }
def fnExactPappusOfRow : OpenClaim := { program := "ytldcckcljjlglaa", sum := "432a63c897f155c9d0cfd33e63baf635e4f6bd9bd6da9632d4091cdf99d75208", func := "loop.example/g03104/laws.FnExactPappusOf", spec := "fnExactPappusOf", unfollowed := true, recurses := true, plainKeys := false, apart := false }
def FnExactPappusOfSaid : Prop := fnExactPappusOfRow.holds Try.pinned (OpenSpec.ofChange fnExactPappusOfSpec)

/-- ITS FALSE NEIGHBOUR: 'it returns false'. Refute it at one input. -/
def fnExactPappusOfWrong : ChangeSpec := { name := "fnExactPappusOf", fn := fun _ => fun
  | [d] => { results := [.lit (.bool false)], args := [d] }
  | _ => none }
def FnExactPappusOfWrongFalsely : Prop := fnExactPappusOfRow.holds Try.pinned (OpenSpec.ofChange fnExactPappusOfWrong)

/-- 'laws.FnExactDesarguesOf': WHATEVER THE INPUT: true; the input reads as it did. -/
def fnExactDesarguesOfSpec : ChangeSpec := { name := "fnExactDesarguesOf", fn := fun _ => fun
  | [d] => { results := [.lit (.bool true)], args := [d] }
  | _ => none }
def fnExactDesarguesOfRow : OpenClaim := { program := "ytldcckcljjlglaa", sum := "432a63c897f155c9d0cfd33e63baf635e4f6bd9bd6da9632d4091cdf99d75208", func := "loop.example/g03104/laws.FnExactDesarguesOf", spec := "fnExactDesarguesOf", unfollowed := true, recurses := true, plainKeys := false, apart := false }
def FnExactDesarguesOfSaid : Prop := fnExactDesarguesOfRow.holds Try.pinned (OpenSpec.ofChange fnExactDesarguesOfSpec)

/-- ITS FALSE NEIGHBOUR: 'it returns false'. Refute it at one input. -/
def fnExactDesarguesOfWrong : ChangeSpec := { name := "fnExactDesarguesOf", fn := fun _ => fun
  | [d] => { results := [.lit (.bool false)], args := [d] }
  | _ => none }
def FnExactDesarguesOfWrongFalsely : Prop := fnExactDesarguesOfRow.holds Try.pinned (OpenSpec.ofChange fnExactDesarguesOfWrong)

/-- 'laws.FnIncidences': WHATEVER THE INPUT: true; the input reads as it did. -/
def fnIncidencesSpec : ChangeSpec := { name := "fnIncidences", fn := fun _ => fun
  | [d] => { results := [.lit (.bool true)], args := [d] }
  | _ => none }
def fnIncidencesRow : OpenClaim := { program := "ytldcckcljjlglaa", sum := "432a63c897f155c9d0cfd33e63baf635e4f6bd9bd6da9632d4091cdf99d75208", func := "loop.example/g03104/laws.FnIncidences", spec := "fnIncidences", unfollowed := true, recurses := true, plainKeys := false, apart := false }
def FnIncidencesSaid : Prop := fnIncidencesRow.holds Try.pinned (OpenSpec.ofChange fnIncidencesSpec)

/-- ITS FALSE NEIGHBOUR: 'it returns false'. Refute it at one input. -/
def fnIncidencesWrong : ChangeSpec := { name := "fnIncidences", fn := fun _ => fun
  | [d] => { results := [.lit (.bool false)], args := [d] }
  | _ => none }
def FnIncidencesWrongFalsely : Prop := fnIncidencesRow.holds Try.pinned (OpenSpec.ofChange fnIncidencesWrong)

/- THE SECOND FORM. 'bulk': how many values and letters a reading holds, each counted each time it is reached (what is shared counts as often as it is met; a slice's spare places count too). A statement '..UptoSaid' is the law's where the arguments, and the package variables that the reading takes, are together of bulk at most 1048576: NARROWER than '..Said'. Prove '..Said' where nothing that the law and all that it calls make is longer than what came in: it says more and counts as full. Else prove '..UptoSaid'. A law counts once. -/
mutual
def uptoBulk {H : Type} : DataW H → Nat
  | .lit (.string bytes) => bytes.length + 1
  | .lit _ => 1
  | .nil => 1
  | .ptr d => uptoBulk d + 1
  | .slice elems spare => uptoBulkAll elems + uptoBulkAll spare + 1
  | .agg parts => uptoBulkAll parts + 1
  | .iface _ d => uptoBulk d + 1
  | .map entries => uptoBulkEntries entries + 1
  | .held _ => 1
def uptoBulkAll {H : Type} : List (DataW H) → Nat
  | [] => 0
  | d :: r => uptoBulk d + uptoBulkAll r
def uptoBulkEntries {H : Type} : List (Lit × DataW H) → Nat
  | [] => 0
  | x :: r => uptoBulkEntry x + uptoBulkEntries r
def uptoBulkEntry {H : Type} : Lit × DataW H → Nat
  | (.string bytes, d) => bytes.length + uptoBulk d + 1
  | (_, d) => uptoBulk d + 1
 end
def uptoSmall : (H : Type) → List (DataW H) → Bool := fun _ ds => decide (uptoBulkAll ds ≤ 1048576)
def OpenSpec.upto (s : _root_.Go.ChangeSpec) : _root_.Go.OpenSpec := { _root_.Go.OpenSpec.ofChange s with cond := some uptoSmall }

/-- 'laws.FnExactCountFree', WHERE WHAT IT READS IS OF BULK AT MOST 1048576: true; the input reads as it did. -/
def fnExactCountFreeUptoRow : OpenClaim := { program := "ytldcckcljjlglaa", sum := "432a63c897f155c9d0cfd33e63baf635e4f6bd9bd6da9632d4091cdf99d75208", func := "loop.example/g03104/laws.FnExactCountFree", spec := "fnExactCountFree", unfollowed := true, recurses := true, plainKeys := false, apart := false, narrowed := true }
def FnExactCountFreeUptoSaid : Prop := fnExactCountFreeUptoRow.holds Try.pinned (OpenSpec.upto fnExactCountFreeSpec)

/-- 'laws.FnExactOnRow', WHERE WHAT IT READS IS OF BULK AT MOST 1048576: true; the input reads as it did. -/
def fnExactOnRowUptoRow : OpenClaim := { program := "ytldcckcljjlglaa", sum := "432a63c897f155c9d0cfd33e63baf635e4f6bd9bd6da9632d4091cdf99d75208", func := "loop.example/g03104/laws.FnExactOnRow", spec := "fnExactOnRow", unfollowed := true, recurses := true, plainKeys := false, apart := false, narrowed := true }
def FnExactOnRowUptoSaid : Prop := fnExactOnRowUptoRow.holds Try.pinned (OpenSpec.upto fnExactOnRowSpec)

/-- 'laws.FnExactPointsOn', WHERE WHAT IT READS IS OF BULK AT MOST 1048576: true; the input reads as it did. -/
def fnExactPointsOnUptoRow : OpenClaim := { program := "ytldcckcljjlglaa", sum := "432a63c897f155c9d0cfd33e63baf635e4f6bd9bd6da9632d4091cdf99d75208", func := "loop.example/g03104/laws.FnExactPointsOn", spec := "fnExactPointsOn", unfollowed := true, recurses := true, plainKeys := false, apart := false, narrowed := true }
def FnExactPointsOnUptoSaid : Prop := fnExactPointsOnUptoRow.holds Try.pinned (OpenSpec.upto fnExactPointsOnSpec)

/-- 'laws.FnExactPolyAtPrime', WHERE WHAT IT READS IS OF BULK AT MOST 1048576: true; the input reads as it did. -/
def fnExactPolyAtPrimeUptoRow : OpenClaim := { program := "ytldcckcljjlglaa", sum := "432a63c897f155c9d0cfd33e63baf635e4f6bd9bd6da9632d4091cdf99d75208", func := "loop.example/g03104/laws.FnExactPolyAtPrime", spec := "fnExactPolyAtPrime", unfollowed := true, recurses := true, plainKeys := false, apart := false, narrowed := true }
def FnExactPolyAtPrimeUptoSaid : Prop := fnExactPolyAtPrimeUptoRow.holds Try.pinned (OpenSpec.upto fnExactPolyAtPrimeSpec)

/-- 'laws.FnExactCountBounded', WHERE WHAT IT READS IS OF BULK AT MOST 1048576: true; the input reads as it did. -/
def fnExactCountBoundedUptoRow : OpenClaim := { program := "ytldcckcljjlglaa", sum := "432a63c897f155c9d0cfd33e63baf635e4f6bd9bd6da9632d4091cdf99d75208", func := "loop.example/g03104/laws.FnExactCountBounded", spec := "fnExactCountBounded", unfollowed := true, recurses := true, plainKeys := false, apart := false, narrowed := true }
def FnExactCountBoundedUptoSaid : Prop := fnExactCountBoundedUptoRow.holds Try.pinned (OpenSpec.upto fnExactCountBoundedSpec)

/-- 'laws.FnExactLinePoly', WHERE WHAT IT READS IS OF BULK AT MOST 1048576: true; the input reads as it did. -/
def fnExactLinePolyUptoRow : OpenClaim := { program := "ytldcckcljjlglaa", sum := "432a63c897f155c9d0cfd33e63baf635e4f6bd9bd6da9632d4091cdf99d75208", func := "loop.example/g03104/laws.FnExactLinePoly", spec := "fnExactLinePoly", unfollowed := true, recurses := true, plainKeys := false, apart := false, narrowed := true }
def FnExactLinePolyUptoSaid : Prop := fnExactLinePolyUptoRow.holds Try.pinned (OpenSpec.upto fnExactLinePolySpec)

/-- 'laws.FnLines', WHERE WHAT IT READS IS OF BULK AT MOST 1048576: true; the input reads as it did. -/
def fnLinesUptoRow : OpenClaim := { program := "ytldcckcljjlglaa", sum := "432a63c897f155c9d0cfd33e63baf635e4f6bd9bd6da9632d4091cdf99d75208", func := "loop.example/g03104/laws.FnLines", spec := "fnLines", unfollowed := true, recurses := true, plainKeys := false, apart := false, narrowed := true }
def FnLinesUptoSaid : Prop := fnLinesUptoRow.holds Try.pinned (OpenSpec.upto fnLinesSpec)

/-- 'laws.FnFields', WHERE WHAT IT READS IS OF BULK AT MOST 1048576: true; the input reads as it did. -/
def fnFieldsUptoRow : OpenClaim := { program := "ytldcckcljjlglaa", sum := "432a63c897f155c9d0cfd33e63baf635e4f6bd9bd6da9632d4091cdf99d75208", func := "loop.example/g03104/laws.FnFields", spec := "fnFields", unfollowed := true, recurses := true, plainKeys := false, apart := false, narrowed := true }
def FnFieldsUptoSaid : Prop := fnFieldsUptoRow.holds Try.pinned (OpenSpec.upto fnFieldsSpec)

/-- 'laws.FnExactArePerspective', WHERE WHAT IT READS IS OF BULK AT MOST 1048576: true; the input reads as it did. -/
def fnExactArePerspectiveUptoRow : OpenClaim := { program := "ytldcckcljjlglaa", sum := "432a63c897f155c9d0cfd33e63baf635e4f6bd9bd6da9632d4091cdf99d75208", func := "loop.example/g03104/laws.FnExactArePerspective", spec := "fnExactArePerspective", unfollowed := true, recurses := true, plainKeys := false, apart := false, narrowed := true }
def FnExactArePerspectiveUptoSaid : Prop := fnExactArePerspectiveUptoRow.holds Try.pinned (OpenSpec.upto fnExactArePerspectiveSpec)

/-- 'laws.FnExactPappusOf', WHERE WHAT IT READS IS OF BULK AT MOST 1048576: true; the input reads as it did. -/
def fnExactPappusOfUptoRow : OpenClaim := { program := "ytldcckcljjlglaa", sum := "432a63c897f155c9d0cfd33e63baf635e4f6bd9bd6da9632d4091cdf99d75208", func := "loop.example/g03104/laws.FnExactPappusOf", spec := "fnExactPappusOf", unfollowed := true, recurses := true, plainKeys := false, apart := false, narrowed := true }
def FnExactPappusOfUptoSaid : Prop := fnExactPappusOfUptoRow.holds Try.pinned (OpenSpec.upto fnExactPappusOfSpec)

/-- 'laws.FnExactDesarguesOf', WHERE WHAT IT READS IS OF BULK AT MOST 1048576: true; the input reads as it did. -/
def fnExactDesarguesOfUptoRow : OpenClaim := { program := "ytldcckcljjlglaa", sum := "432a63c897f155c9d0cfd33e63baf635e4f6bd9bd6da9632d4091cdf99d75208", func := "loop.example/g03104/laws.FnExactDesarguesOf", spec := "fnExactDesarguesOf", unfollowed := true, recurses := true, plainKeys := false, apart := false, narrowed := true }
def FnExactDesarguesOfUptoSaid : Prop := fnExactDesarguesOfUptoRow.holds Try.pinned (OpenSpec.upto fnExactDesarguesOfSpec)

/-- 'laws.FnIncidences', WHERE WHAT IT READS IS OF BULK AT MOST 1048576: true; the input reads as it did. -/
def fnIncidencesUptoRow : OpenClaim := { program := "ytldcckcljjlglaa", sum := "432a63c897f155c9d0cfd33e63baf635e4f6bd9bd6da9632d4091cdf99d75208", func := "loop.example/g03104/laws.FnIncidences", spec := "fnIncidences", unfollowed := true, recurses := true, plainKeys := false, apart := false, narrowed := true }
def FnIncidencesUptoSaid : Prop := fnIncidencesUptoRow.holds Try.pinned (OpenSpec.upto fnIncidencesSpec)

end Rows
end Go.Proofs.Ytldcckcljjlglaa
