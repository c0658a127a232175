/-
  DERIVED. GIVEN WITH THE SEED: THE CARDS: each row of YteldcmniknocpaaGreatDoorRows.lean that lists a variable, with what it lists TIED to the program's text (the seventh form; the later family's looks); each row that meets fmt, with fmt's text TOLD by the authors' own Lean function (tested against real Go, not proved from fmt's source: count such statements apart). THE CARD IS WHAT COUNTS. Prove the row's statement (the work); the ties are given (YteldcmniknocpaaGreatDoorTie.lean); close each card by the builder's one call (the guide's Derived/Test/ToyasCard.lean, 'card_holds'). Laid BY PROGRAM, IN A SANDBOX (cutbox-door.mjs). By AI agents, Wed Nov 11 2026. No macro, syntax, notation, axiom, sorry.
-/
import Derived.Test.YteldcmniknocpaaGreatDoorRows
import GoSem.ClaimSeven
namespace Go.Proofs.YteldcmniknocpaaGreatDoor
namespace Rows

/-- THE TIED CARD OF 'laws.FnExactGraphOk'. -/
def fnExactGraphOkCard : Claim7 := { stood := { row := fnExactGraphOkRow, standIns := [], harness := (true, "1c522242cf65e56cb03a084849e2e1189173e913fe01d825557e91043eab861a"), looks := true }, kinds := [], alts := [], laidByText := true, laidKinds := [.data, .data, .data, .data, .sentinel, .sentinel, .pinned], laidTests := true, laidLooks := .later }
def FnExactGraphOkCardSaid : Prop := Claim7.holds Tryz.pinned (.plain (OpenSpec.ofChange fnExactGraphOkSpec)) fnExactGraphOkCard

/-- THE TIED CARD OF 'laws.FnExactGraphText'. -/
def fnExactGraphTextCard : Claim7 := { stood := { row := fnExactGraphTextRow, standIns := [], harness := (true, "1c522242cf65e56cb03a084849e2e1189173e913fe01d825557e91043eab861a"), looks := true }, kinds := [], alts := [], laidByText := true, laidKinds := [.data, .data, .data, .data, .sentinel, .sentinel, .pinned], laidTests := true, laidLooks := .later }
def FnExactGraphTextCardSaid : Prop := Claim7.holds Tryz.pinned (.plain (OpenSpec.ofChange fnExactGraphTextSpec)) fnExactGraphTextCard

/-- THE TIED CARD OF 'laws.FnExactNewest'. -/
def fnExactNewestCard : Claim7 := { stood := { row := fnExactNewestRow, standIns := [], harness := (true, "1c522242cf65e56cb03a084849e2e1189173e913fe01d825557e91043eab861a"), looks := true }, kinds := [], alts := [], laidByText := true, laidKinds := [.data, .data, .data, .data, .sentinel, .sentinel, .pinned], laidTests := true, laidLooks := .later }
def FnExactNewestCardSaid : Prop := Claim7.holds Tryz.pinned (.plain (OpenSpec.ofChange fnExactNewestSpec)) fnExactNewestCard

/-- THE TIED CARD OF 'laws.FnExactSortVersions'. -/
def fnExactSortVersionsCard : Claim7 := { stood := { row := fnExactSortVersionsRow, standIns := [], harness := (true, "1c522242cf65e56cb03a084849e2e1189173e913fe01d825557e91043eab861a"), looks := true }, kinds := [], alts := [], laidByText := true, laidKinds := [.data, .data, .data, .data, .sentinel, .sentinel, .pinned], laidTests := true, laidLooks := .later }
def FnExactSortVersionsCardSaid : Prop := Claim7.holds Tryz.pinned (.plain (OpenSpec.ofChange fnExactSortVersionsSpec)) fnExactSortVersionsCard

/-- THE SECOND FORM's CARD OF 'laws.FnExactGraphOk'. -/
def fnExactGraphOkUptoCard : Claim7 := { stood := { row := fnExactGraphOkUptoRow, standIns := [], harness := (true, "1c522242cf65e56cb03a084849e2e1189173e913fe01d825557e91043eab861a"), looks := true }, kinds := [], alts := [], laidByText := true, laidKinds := [.data, .data, .data, .data, .sentinel, .sentinel, .pinned], laidTests := true, laidLooks := .later }
def FnExactGraphOkUptoCardSaid : Prop := Claim7.holds Tryz.pinned (.plain (OpenSpec.upto fnExactGraphOkSpec)) fnExactGraphOkUptoCard

/-- THE SECOND FORM's CARD OF 'laws.FnExactGraphText'. -/
def fnExactGraphTextUptoCard : Claim7 := { stood := { row := fnExactGraphTextUptoRow, standIns := [], harness := (true, "1c522242cf65e56cb03a084849e2e1189173e913fe01d825557e91043eab861a"), looks := true }, kinds := [], alts := [], laidByText := true, laidKinds := [.data, .data, .data, .data, .sentinel, .sentinel, .pinned], laidTests := true, laidLooks := .later }
def FnExactGraphTextUptoCardSaid : Prop := Claim7.holds Tryz.pinned (.plain (OpenSpec.upto fnExactGraphTextSpec)) fnExactGraphTextUptoCard

/-- THE SECOND FORM's CARD OF 'laws.FnExactNewest'. -/
def fnExactNewestUptoCard : Claim7 := { stood := { row := fnExactNewestUptoRow, standIns := [], harness := (true, "1c522242cf65e56cb03a084849e2e1189173e913fe01d825557e91043eab861a"), looks := true }, kinds := [], alts := [], laidByText := true, laidKinds := [.data, .data, .data, .data, .sentinel, .sentinel, .pinned], laidTests := true, laidLooks := .later }
def FnExactNewestUptoCardSaid : Prop := Claim7.holds Tryz.pinned (.plain (OpenSpec.upto fnExactNewestSpec)) fnExactNewestUptoCard

/-- THE SECOND FORM's CARD OF 'laws.FnExactSortVersions'. -/
def fnExactSortVersionsUptoCard : Claim7 := { stood := { row := fnExactSortVersionsUptoRow, standIns := [], harness := (true, "1c522242cf65e56cb03a084849e2e1189173e913fe01d825557e91043eab861a"), looks := true }, kinds := [], alts := [], laidByText := true, laidKinds := [.data, .data, .data, .data, .sentinel, .sentinel, .pinned], laidTests := true, laidLooks := .later }
def FnExactSortVersionsUptoCardSaid : Prop := Claim7.holds Tryz.pinned (.plain (OpenSpec.upto fnExactSortVersionsSpec)) fnExactSortVersionsUptoCard
end Rows
end Go.Proofs.YteldcmniknocpaaGreatDoor
