/-
  DERIVED. GIVEN WITH THE SEED: THE CARDS: each row of YteaagaekdkolnaaGreatDoorRows.lean that lists a variable, with what it lists TIED to the program's text (the seventh form; the later family's looks); each row that meets fmt, with fmt's text TOLD by the authors' own Lean function (tested against real Go, not proved from fmt's source: count such statements apart). THE CARD IS WHAT COUNTS. Prove the row's statement (the work); the ties are given (YteaagaekdkolnaaGreatDoorTie.lean); close each card by the builder's one call (the guide's Derived/Test/ToyasCard.lean, 'card_holds'). Laid BY PROGRAM, IN A SANDBOX (cutbox-door.mjs). By AI agents, Wed Nov 11 2026. No macro, syntax, notation, axiom, sorry.
-/
import Derived.Test.YteaagaekdkolnaaGreatDoorRows
import GoSem.ClaimSeven
namespace Go.Proofs.YteaagaekdkolnaaGreatDoor
namespace Rows

/-- THE TIED CARD OF 'laws.FnExactDescribePoints'. -/
def fnExactDescribePointsCard : Claim7 := { stood := { row := fnExactDescribePointsRow, standIns := [], harness := (true, "c02670906b37fd39625ff3939742d663c344f4f43226875e804ec86a5b3cf587"), looks := false }, kinds := [], alts := [], laidByText := true, laidKinds := [.data, .data, .data], laidTests := true, laidLooks := .later }
def FnExactDescribePointsCardSaid : Prop := Claim7.holds Tryz.pinned (.plain (OpenSpec.ofChange fnExactDescribePointsSpec)) fnExactDescribePointsCard

/-- THE SECOND FORM's CARD OF 'laws.FnExactDescribePoints'. -/
def fnExactDescribePointsUptoCard : Claim7 := { stood := { row := fnExactDescribePointsUptoRow, standIns := [], harness := (true, "c02670906b37fd39625ff3939742d663c344f4f43226875e804ec86a5b3cf587"), looks := false }, kinds := [], alts := [], laidByText := true, laidKinds := [.data, .data, .data], laidTests := true, laidLooks := .later }
def FnExactDescribePointsUptoCardSaid : Prop := Claim7.holds Tryz.pinned (.plain (OpenSpec.upto fnExactDescribePointsSpec)) fnExactDescribePointsUptoCard
end Rows
end Go.Proofs.YteaagaekdkolnaaGreatDoor
