/-
  DERIVED. GIVEN WITH THE SEED: THE CARDS: each row of YtobbhjcohkndeaaGreatDoorRows.lean that lists a variable, with what it lists TIED to the program's text (the seventh form; the later family's looks); each row that meets fmt, with fmt's text TOLD by the authors' own Lean function (tested against real Go, not proved from fmt's source: count such statements apart). THE CARD IS WHAT COUNTS. Prove the row's statement (the work); the ties are given (YtobbhjcohkndeaaGreatDoorTie.lean); close each card by the builder's one call (the guide's Derived/Test/ToyasCard.lean, 'card_holds'). Laid BY PROGRAM, IN A SANDBOX (cutbox-door.mjs). By AI agents, Wed Nov 11 2026. No macro, syntax, notation, axiom, sorry.
-/
import Derived.Test.YtobbhjcohkndeaaGreatDoorRows
import GoSem.ClaimSeven
namespace Go.Proofs.YtobbhjcohkndeaaGreatDoor
namespace Rows

/-- THE TIED CARD OF 'laws.FnExamples'. -/
def fnExamplesCard : Claim7 := { stood := { row := fnExamplesRow, standIns := [], harness := (true, "688f9c16b0d9170a1ab5f911cd1423639793124b2e0870abf3781f26dac5a3fc"), looks := true }, kinds := [], alts := [], laidByText := true, laidKinds := [.data, .data, .data, .sentinel, .sentinel], laidTests := true, laidLooks := .later }
def FnExamplesCardSaid : Prop := Claim7.holds Tryz.pinned (.plain (OpenSpec.ofChange fnExamplesSpec)) fnExamplesCard

/-- THE SECOND FORM's CARD OF 'laws.FnExamples'. -/
def fnExamplesUptoCard : Claim7 := { stood := { row := fnExamplesUptoRow, standIns := [], harness := (true, "688f9c16b0d9170a1ab5f911cd1423639793124b2e0870abf3781f26dac5a3fc"), looks := true }, kinds := [], alts := [], laidByText := true, laidKinds := [.data, .data, .data, .sentinel, .sentinel], laidTests := true, laidLooks := .later }
def FnExamplesUptoCardSaid : Prop := Claim7.holds Tryz.pinned (.plain (OpenSpec.upto fnExamplesSpec)) fnExamplesUptoCard
end Rows
end Go.Proofs.YtobbhjcohkndeaaGreatDoor
