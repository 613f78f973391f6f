/-
  DERIVED. GIVEN WITH THE SEED: THE CARDS: each row of YtecpobpcimehlaaDoorRows.lean that lists a variable, with what it lists TIED to the program's text (the seventh form; the later family's looks); each row that meets fmt, with fmt's text TOLD by the authors' own Lean function (tested against real Go, not proved from fmt's source: count such statements apart). THE CARD IS WHAT COUNTS. Prove the row's statement (the work); the ties are given (YtecpobpcimehlaaDoorTie.lean); close each card by the builder's one call (the guide's Derived/Test/ToyasCard.lean, 'card_holds'). Laid BY PROGRAM, IN A SANDBOX (cutbox-door.mjs). By AI agents, Wed Nov 11 2026. No macro, syntax, notation, axiom, sorry.
-/
import Derived.Test.YtecpobpcimehlaaDoorRows
import GoSem.ClaimSeven
namespace Go.Proofs.YtecpobpcimehlaaDoor
namespace Rows

/-- THE TIED CARD OF 'laws.FnExactDescribeLines'. -/
def fnExactDescribeLinesCard : Claim7 := { stood := { row := fnExactDescribeLinesRow, standIns := [], harness := (true, "2b9e93ec1622b7048164b78056e4915f65cc89a11cd87f8fe70a708cc88fd5ec"), looks := false }, kinds := [], alts := [], laidByText := true, laidKinds := [.data, .data, .data], laidTests := true, laidLooks := .later }
def FnExactDescribeLinesCardSaid : Prop := Claim7.holds Tryd.pinned (.plain (OpenSpec.ofChange fnExactDescribeLinesSpec)) fnExactDescribeLinesCard

/-- THE SECOND FORM's CARD OF 'laws.FnExactDescribeLines'. -/
def fnExactDescribeLinesUptoCard : Claim7 := { stood := { row := fnExactDescribeLinesUptoRow, standIns := [], harness := (true, "2b9e93ec1622b7048164b78056e4915f65cc89a11cd87f8fe70a708cc88fd5ec"), looks := false }, kinds := [], alts := [], laidByText := true, laidKinds := [.data, .data, .data], laidTests := true, laidLooks := .later }
def FnExactDescribeLinesUptoCardSaid : Prop := Claim7.holds Tryd.pinned (.plain (OpenSpec.upto fnExactDescribeLinesSpec)) fnExactDescribeLinesUptoCard
end Rows
end Go.Proofs.YtecpobpcimehlaaDoor
