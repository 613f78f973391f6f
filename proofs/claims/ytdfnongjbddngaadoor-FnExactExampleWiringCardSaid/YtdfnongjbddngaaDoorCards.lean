/-
  DERIVED. GIVEN WITH THE SEED: THE CARDS: each row of YtdfnongjbddngaaDoorRows.lean that lists a variable, with what it lists TIED to the program's text (the seventh form; the later family's looks); each row that meets fmt, with fmt's text TOLD by the authors' own Lean function (tested against real Go, not proved from fmt's source: count such statements apart). THE CARD IS WHAT COUNTS. Prove the row's statement (the work); the ties are given (YtdfnongjbddngaaDoorTie.lean); close each card by the builder's one call (the guide's Derived/Test/ToyasCard.lean, 'card_holds'). Laid BY PROGRAM, IN A SANDBOX (cutbox-door.mjs). By AI agents, Wed Nov 11 2026. No macro, syntax, notation, axiom, sorry.
-/
import Derived.Test.YtdfnongjbddngaaDoorRows
import GoSem.ClaimSeven
namespace Go.Proofs.YtdfnongjbddngaaDoor
namespace Rows

/-- THE TIED CARD OF 'laws.FnExactSetText'. -/
def fnExactSetTextCard : Claim7 := { stood := { row := fnExactSetTextRow, standIns := [], harness := (true, "00f9795b4a945041aaf7d9c80a4dd51cdee3bf4e06134ce28a60e36b6d49c4fb"), looks := true }, kinds := [], alts := [], laidByText := true, laidKinds := [.data, .data, .data], laidTests := true, laidLooks := .later }
def FnExactSetTextCardSaid : Prop := Claim7.holds Tryd.pinned (.plain (OpenSpec.ofChange fnExactSetTextSpec)) fnExactSetTextCard

/-- THE TIED CARD OF 'laws.FnExactLineText'. -/
def fnExactLineTextCard : Claim7 := { stood := { row := fnExactLineTextRow, standIns := [], harness := (true, "00f9795b4a945041aaf7d9c80a4dd51cdee3bf4e06134ce28a60e36b6d49c4fb"), looks := true }, kinds := [], alts := [], laidByText := true, laidKinds := [.data, .data, .data], laidTests := true, laidLooks := .later }
def FnExactLineTextCardSaid : Prop := Claim7.holds Tryd.pinned (.plain (OpenSpec.ofChange fnExactLineTextSpec)) fnExactLineTextCard

/-- THE TIED CARD OF 'laws.FnExactNumbersText'. -/
def fnExactNumbersTextCard : Claim7 := { stood := { row := fnExactNumbersTextRow, standIns := [], harness := (true, "00f9795b4a945041aaf7d9c80a4dd51cdee3bf4e06134ce28a60e36b6d49c4fb"), looks := true }, kinds := [], alts := [], laidByText := true, laidKinds := [.data, .data, .data], laidTests := true, laidLooks := .later }
def FnExactNumbersTextCardSaid : Prop := Claim7.holds Tryd.pinned (.plain (OpenSpec.ofChange fnExactNumbersTextSpec)) fnExactNumbersTextCard

/-- THE TIED CARD OF 'laws.FnExactListsText'. -/
def fnExactListsTextCard : Claim7 := { stood := { row := fnExactListsTextRow, standIns := [], harness := (true, "00f9795b4a945041aaf7d9c80a4dd51cdee3bf4e06134ce28a60e36b6d49c4fb"), looks := true }, kinds := [], alts := [], laidByText := true, laidKinds := [.data, .data, .data], laidTests := true, laidLooks := .later }
def FnExactListsTextCardSaid : Prop := Claim7.holds Tryd.pinned (.plain (OpenSpec.ofChange fnExactListsTextSpec)) fnExactListsTextCard

/-- THE TIED CARD OF 'laws.FnExactExampleWiring'. -/
def fnExactExampleWiringCard : Claim7 := { stood := { row := fnExactExampleWiringRow, standIns := [], harness := (true, "00f9795b4a945041aaf7d9c80a4dd51cdee3bf4e06134ce28a60e36b6d49c4fb"), looks := true }, kinds := [], alts := [], laidByText := true, laidKinds := [.data, .data, .data, .sentinel, .sentinel], laidTests := true, laidLooks := .later }
def FnExactExampleWiringCardSaid : Prop := Claim7.holds Tryd.pinned (.plain (OpenSpec.ofChange fnExactExampleWiringSpec)) fnExactExampleWiringCard

/-- THE TIED CARD OF 'laws.FnExactExamplePoints'. -/
def fnExactExamplePointsCard : Claim7 := { stood := { row := fnExactExamplePointsRow, standIns := [], harness := (true, "00f9795b4a945041aaf7d9c80a4dd51cdee3bf4e06134ce28a60e36b6d49c4fb"), looks := true }, kinds := [], alts := [], laidByText := true, laidKinds := [.data, .data, .data, .sentinel, .sentinel], laidTests := true, laidLooks := .later }
def FnExactExamplePointsCardSaid : Prop := Claim7.holds Tryd.pinned (.plain (OpenSpec.ofChange fnExactExamplePointsSpec)) fnExactExamplePointsCard

/-- THE SECOND FORM's CARD OF 'laws.FnExactSetText'. -/
def fnExactSetTextUptoCard : Claim7 := { stood := { row := fnExactSetTextUptoRow, standIns := [], harness := (true, "00f9795b4a945041aaf7d9c80a4dd51cdee3bf4e06134ce28a60e36b6d49c4fb"), looks := true }, kinds := [], alts := [], laidByText := true, laidKinds := [.data, .data, .data], laidTests := true, laidLooks := .later }
def FnExactSetTextUptoCardSaid : Prop := Claim7.holds Tryd.pinned (.plain (OpenSpec.upto fnExactSetTextSpec)) fnExactSetTextUptoCard

/-- THE SECOND FORM's CARD OF 'laws.FnExactLineText'. -/
def fnExactLineTextUptoCard : Claim7 := { stood := { row := fnExactLineTextUptoRow, standIns := [], harness := (true, "00f9795b4a945041aaf7d9c80a4dd51cdee3bf4e06134ce28a60e36b6d49c4fb"), looks := true }, kinds := [], alts := [], laidByText := true, laidKinds := [.data, .data, .data], laidTests := true, laidLooks := .later }
def FnExactLineTextUptoCardSaid : Prop := Claim7.holds Tryd.pinned (.plain (OpenSpec.upto fnExactLineTextSpec)) fnExactLineTextUptoCard

/-- THE SECOND FORM's CARD OF 'laws.FnExactNumbersText'. -/
def fnExactNumbersTextUptoCard : Claim7 := { stood := { row := fnExactNumbersTextUptoRow, standIns := [], harness := (true, "00f9795b4a945041aaf7d9c80a4dd51cdee3bf4e06134ce28a60e36b6d49c4fb"), looks := true }, kinds := [], alts := [], laidByText := true, laidKinds := [.data, .data, .data], laidTests := true, laidLooks := .later }
def FnExactNumbersTextUptoCardSaid : Prop := Claim7.holds Tryd.pinned (.plain (OpenSpec.upto fnExactNumbersTextSpec)) fnExactNumbersTextUptoCard

/-- THE SECOND FORM's CARD OF 'laws.FnExactListsText'. -/
def fnExactListsTextUptoCard : Claim7 := { stood := { row := fnExactListsTextUptoRow, standIns := [], harness := (true, "00f9795b4a945041aaf7d9c80a4dd51cdee3bf4e06134ce28a60e36b6d49c4fb"), looks := true }, kinds := [], alts := [], laidByText := true, laidKinds := [.data, .data, .data], laidTests := true, laidLooks := .later }
def FnExactListsTextUptoCardSaid : Prop := Claim7.holds Tryd.pinned (.plain (OpenSpec.upto fnExactListsTextSpec)) fnExactListsTextUptoCard

/-- THE SECOND FORM's CARD OF 'laws.FnExactExampleWiring'. -/
def fnExactExampleWiringUptoCard : Claim7 := { stood := { row := fnExactExampleWiringUptoRow, standIns := [], harness := (true, "00f9795b4a945041aaf7d9c80a4dd51cdee3bf4e06134ce28a60e36b6d49c4fb"), looks := true }, kinds := [], alts := [], laidByText := true, laidKinds := [.data, .data, .data, .sentinel, .sentinel], laidTests := true, laidLooks := .later }
def FnExactExampleWiringUptoCardSaid : Prop := Claim7.holds Tryd.pinned (.plain (OpenSpec.upto fnExactExampleWiringSpec)) fnExactExampleWiringUptoCard

/-- THE SECOND FORM's CARD OF 'laws.FnExactExamplePoints'. -/
def fnExactExamplePointsUptoCard : Claim7 := { stood := { row := fnExactExamplePointsUptoRow, standIns := [], harness := (true, "00f9795b4a945041aaf7d9c80a4dd51cdee3bf4e06134ce28a60e36b6d49c4fb"), looks := true }, kinds := [], alts := [], laidByText := true, laidKinds := [.data, .data, .data, .sentinel, .sentinel], laidTests := true, laidLooks := .later }
def FnExactExamplePointsUptoCardSaid : Prop := Claim7.holds Tryd.pinned (.plain (OpenSpec.upto fnExactExamplePointsSpec)) fnExactExamplePointsUptoCard
end Rows
end Go.Proofs.YtdfnongjbddngaaDoor
