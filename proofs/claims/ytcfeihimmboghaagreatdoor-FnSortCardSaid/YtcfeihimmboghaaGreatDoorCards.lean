/-
  DERIVED. GIVEN WITH THE SEED: THE CARDS: each row of YtcfeihimmboghaaGreatDoorRows.lean that lists a variable, with what it lists TIED to the program's text (the seventh form; the later family's looks); each row that meets fmt, with fmt's text TOLD by the authors' own Lean function (tested against real Go, not proved from fmt's source: count such statements apart). THE CARD IS WHAT COUNTS. Prove the row's statement (the work); the ties are given (YtcfeihimmboghaaGreatDoorTie.lean); close each card by the builder's one call (the guide's Derived/Test/ToyasCard.lean, 'card_holds'). Laid BY PROGRAM, IN A SANDBOX (cutbox-door.mjs). By AI agents, Wed Nov 11 2026. No macro, syntax, notation, axiom, sorry.
-/
import Derived.Test.YtcfeihimmboghaaGreatDoorRows
import GoSem.ClaimSeven
namespace Go.Proofs.YtcfeihimmboghaaGreatDoor
namespace Rows

/-- THE TIED CARD OF 'laws.FnRange'. -/
def fnRangeCard : Claim7 := { stood := { row := fnRangeRow, standIns := [], harness := (true, "70d85f23b98ae37688f04099f0b6d0e33f396f1a566a74ece7db5a53f8e8b185"), looks := true }, kinds := [], alts := [], laidByText := true, laidKinds := [.data, .data, .data, .data, .sentinel, .sentinel, .pinned], laidTests := true, laidLooks := .later }
def FnRangeCardSaid : Prop := Claim7.holds Tryz.pinned (.plain (OpenSpec.ofChange fnRangeSpec)) fnRangeCard

/-- THE TIED CARD OF 'laws.FnTexts'. -/
def fnTextsCard : Claim7 := { stood := { row := fnTextsRow, standIns := [], harness := (true, "70d85f23b98ae37688f04099f0b6d0e33f396f1a566a74ece7db5a53f8e8b185"), looks := true }, kinds := [], alts := [], laidByText := true, laidKinds := [.data, .data, .data, .data, .sentinel, .sentinel, .pinned], laidTests := true, laidLooks := .later }
def FnTextsCardSaid : Prop := Claim7.holds Tryz.pinned (.plain (OpenSpec.ofChange fnTextsSpec)) fnTextsCard

/-- THE TIED CARD OF 'laws.FnExactOrder'. -/
def fnExactOrderCard : Claim7 := { stood := { row := fnExactOrderRow, standIns := [], harness := (true, "70d85f23b98ae37688f04099f0b6d0e33f396f1a566a74ece7db5a53f8e8b185"), looks := true }, kinds := [], alts := [], laidByText := true, laidKinds := [.data, .data, .data, .data, .sentinel, .sentinel, .pinned], laidTests := true, laidLooks := .later }
def FnExactOrderCardSaid : Prop := Claim7.holds Tryz.pinned (.plain (OpenSpec.ofChange fnExactOrderSpec)) fnExactOrderCard

/-- THE TIED CARD OF 'laws.FnExactSortVersions'. -/
def fnExactSortVersionsCard : Claim7 := { stood := { row := fnExactSortVersionsRow, standIns := [], harness := (true, "70d85f23b98ae37688f04099f0b6d0e33f396f1a566a74ece7db5a53f8e8b185"), looks := true }, kinds := [], alts := [], laidByText := true, laidKinds := [.data, .data, .data, .data, .sentinel, .sentinel, .pinned], laidTests := true, laidLooks := .later }
def FnExactSortVersionsCardSaid : Prop := Claim7.holds Tryz.pinned (.plain (OpenSpec.ofChange fnExactSortVersionsSpec)) fnExactSortVersionsCard

/-- THE TIED CARD OF 'laws.FnSort'. -/
def fnSortCard : Claim7 := { stood := { row := fnSortRow, standIns := [], harness := (true, "70d85f23b98ae37688f04099f0b6d0e33f396f1a566a74ece7db5a53f8e8b185"), looks := true }, kinds := [], alts := [], laidByText := true, laidKinds := [.data, .data, .data, .data, .sentinel, .sentinel, .pinned], laidTests := true, laidLooks := .later }
def FnSortCardSaid : Prop := Claim7.holds Tryz.pinned (.plain (OpenSpec.ofChange fnSortSpec)) fnSortCard

/-- THE TIED CARD OF 'laws.FnExactPick'. -/
def fnExactPickCard : Claim7 := { stood := { row := fnExactPickRow, standIns := [], harness := (true, "70d85f23b98ae37688f04099f0b6d0e33f396f1a566a74ece7db5a53f8e8b185"), looks := true }, kinds := [], alts := [], laidByText := true, laidKinds := [.data, .data, .data, .data, .sentinel, .sentinel, .pinned], laidTests := true, laidLooks := .later }
def FnExactPickCardSaid : Prop := Claim7.holds Tryz.pinned (.plain (OpenSpec.ofChange fnExactPickSpec)) fnExactPickCard

/-- THE TIED CARD OF 'laws.FnExactHoles'. -/
def fnExactHolesCard : Claim7 := { stood := { row := fnExactHolesRow, standIns := [], harness := (true, "70d85f23b98ae37688f04099f0b6d0e33f396f1a566a74ece7db5a53f8e8b185"), looks := true }, kinds := [], alts := [], laidByText := true, laidKinds := [.data, .data, .data, .data, .sentinel, .sentinel, .pinned], laidTests := true, laidLooks := .later }
def FnExactHolesCardSaid : Prop := Claim7.holds Tryz.pinned (.plain (OpenSpec.ofChange fnExactHolesSpec)) fnExactHolesCard

/-- THE TIED CARD OF 'laws.FnPick'. -/
def fnPickCard : Claim7 := { stood := { row := fnPickRow, standIns := [], harness := (true, "70d85f23b98ae37688f04099f0b6d0e33f396f1a566a74ece7db5a53f8e8b185"), looks := true }, kinds := [], alts := [], laidByText := true, laidKinds := [.data, .data, .data, .data, .sentinel, .sentinel, .pinned], laidTests := true, laidLooks := .later }
def FnPickCardSaid : Prop := Claim7.holds Tryz.pinned (.plain (OpenSpec.ofChange fnPickSpec)) fnPickCard

/-- THE SECOND FORM's CARD OF 'laws.FnRange'. -/
def fnRangeUptoCard : Claim7 := { stood := { row := fnRangeUptoRow, standIns := [], harness := (true, "70d85f23b98ae37688f04099f0b6d0e33f396f1a566a74ece7db5a53f8e8b185"), looks := true }, kinds := [], alts := [], laidByText := true, laidKinds := [.data, .data, .data, .data, .sentinel, .sentinel, .pinned], laidTests := true, laidLooks := .later }
def FnRangeUptoCardSaid : Prop := Claim7.holds Tryz.pinned (.plain (OpenSpec.upto fnRangeSpec)) fnRangeUptoCard

/-- THE SECOND FORM's CARD OF 'laws.FnTexts'. -/
def fnTextsUptoCard : Claim7 := { stood := { row := fnTextsUptoRow, standIns := [], harness := (true, "70d85f23b98ae37688f04099f0b6d0e33f396f1a566a74ece7db5a53f8e8b185"), looks := true }, kinds := [], alts := [], laidByText := true, laidKinds := [.data, .data, .data, .data, .sentinel, .sentinel, .pinned], laidTests := true, laidLooks := .later }
def FnTextsUptoCardSaid : Prop := Claim7.holds Tryz.pinned (.plain (OpenSpec.upto fnTextsSpec)) fnTextsUptoCard

/-- THE SECOND FORM's CARD OF 'laws.FnExactOrder'. -/
def fnExactOrderUptoCard : Claim7 := { stood := { row := fnExactOrderUptoRow, standIns := [], harness := (true, "70d85f23b98ae37688f04099f0b6d0e33f396f1a566a74ece7db5a53f8e8b185"), looks := true }, kinds := [], alts := [], laidByText := true, laidKinds := [.data, .data, .data, .data, .sentinel, .sentinel, .pinned], laidTests := true, laidLooks := .later }
def FnExactOrderUptoCardSaid : Prop := Claim7.holds Tryz.pinned (.plain (OpenSpec.upto fnExactOrderSpec)) fnExactOrderUptoCard

/-- THE SECOND FORM's CARD OF 'laws.FnExactSortVersions'. -/
def fnExactSortVersionsUptoCard : Claim7 := { stood := { row := fnExactSortVersionsUptoRow, standIns := [], harness := (true, "70d85f23b98ae37688f04099f0b6d0e33f396f1a566a74ece7db5a53f8e8b185"), looks := true }, kinds := [], alts := [], laidByText := true, laidKinds := [.data, .data, .data, .data, .sentinel, .sentinel, .pinned], laidTests := true, laidLooks := .later }
def FnExactSortVersionsUptoCardSaid : Prop := Claim7.holds Tryz.pinned (.plain (OpenSpec.upto fnExactSortVersionsSpec)) fnExactSortVersionsUptoCard

/-- THE SECOND FORM's CARD OF 'laws.FnSort'. -/
def fnSortUptoCard : Claim7 := { stood := { row := fnSortUptoRow, standIns := [], harness := (true, "70d85f23b98ae37688f04099f0b6d0e33f396f1a566a74ece7db5a53f8e8b185"), looks := true }, kinds := [], alts := [], laidByText := true, laidKinds := [.data, .data, .data, .data, .sentinel, .sentinel, .pinned], laidTests := true, laidLooks := .later }
def FnSortUptoCardSaid : Prop := Claim7.holds Tryz.pinned (.plain (OpenSpec.upto fnSortSpec)) fnSortUptoCard

/-- THE SECOND FORM's CARD OF 'laws.FnExactPick'. -/
def fnExactPickUptoCard : Claim7 := { stood := { row := fnExactPickUptoRow, standIns := [], harness := (true, "70d85f23b98ae37688f04099f0b6d0e33f396f1a566a74ece7db5a53f8e8b185"), looks := true }, kinds := [], alts := [], laidByText := true, laidKinds := [.data, .data, .data, .data, .sentinel, .sentinel, .pinned], laidTests := true, laidLooks := .later }
def FnExactPickUptoCardSaid : Prop := Claim7.holds Tryz.pinned (.plain (OpenSpec.upto fnExactPickSpec)) fnExactPickUptoCard

/-- THE SECOND FORM's CARD OF 'laws.FnExactHoles'. -/
def fnExactHolesUptoCard : Claim7 := { stood := { row := fnExactHolesUptoRow, standIns := [], harness := (true, "70d85f23b98ae37688f04099f0b6d0e33f396f1a566a74ece7db5a53f8e8b185"), looks := true }, kinds := [], alts := [], laidByText := true, laidKinds := [.data, .data, .data, .data, .sentinel, .sentinel, .pinned], laidTests := true, laidLooks := .later }
def FnExactHolesUptoCardSaid : Prop := Claim7.holds Tryz.pinned (.plain (OpenSpec.upto fnExactHolesSpec)) fnExactHolesUptoCard

/-- THE SECOND FORM's CARD OF 'laws.FnPick'. -/
def fnPickUptoCard : Claim7 := { stood := { row := fnPickUptoRow, standIns := [], harness := (true, "70d85f23b98ae37688f04099f0b6d0e33f396f1a566a74ece7db5a53f8e8b185"), looks := true }, kinds := [], alts := [], laidByText := true, laidKinds := [.data, .data, .data, .data, .sentinel, .sentinel, .pinned], laidTests := true, laidLooks := .later }
def FnPickUptoCardSaid : Prop := Claim7.holds Tryz.pinned (.plain (OpenSpec.upto fnPickSpec)) fnPickUptoCard
end Rows
end Go.Proofs.YtcfeihimmboghaaGreatDoor
