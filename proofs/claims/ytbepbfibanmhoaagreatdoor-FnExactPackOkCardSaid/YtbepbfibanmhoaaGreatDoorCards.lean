/-
  DERIVED. GIVEN WITH THE SEED: THE CARDS: each row of YtbepbfibanmhoaaGreatDoorRows.lean that lists a variable, with what it lists TIED to the program's text (the seventh form; the later family's looks); each row that meets fmt, with fmt's text TOLD by the authors' own Lean function (tested against real Go, not proved from fmt's source: count such statements apart). THE CARD IS WHAT COUNTS. Prove the row's statement (the work); the ties are given (YtbepbfibanmhoaaGreatDoorTie.lean); close each card by the builder's one call (the guide's Derived/Test/ToyasCard.lean, 'card_holds'). Laid BY PROGRAM, IN A SANDBOX (cutbox-door.mjs). By AI agents, Wed Nov 11 2026. No macro, syntax, notation, axiom, sorry.
-/
import Derived.Test.YtbepbfibanmhoaaGreatDoorRows
import GoSem.ClaimSeven
namespace Go.Proofs.YtbepbfibanmhoaaGreatDoor
namespace Rows

/-- THE TIED CARD OF 'laws.FnExactIn'. -/
def fnExactInCard : Claim7 := { stood := { row := fnExactInRow, standIns := [], harness := (true, "82ebceaa6d0748f14628ee31210e7f4ff578ded901cb181bc05aec3139a477f8"), looks := true }, kinds := [], alts := [], laidByText := true, laidKinds := [.data, .data, .data, .data, .sentinel, .sentinel, .pinned], laidTests := true, laidLooks := .later }
def FnExactInCardSaid : Prop := Claim7.holds Tryz.pinned (.plain (OpenSpec.ofChange fnExactInSpec)) fnExactInCard

/-- THE TIED CARD OF 'laws.FnExactPackOk'. -/
def fnExactPackOkCard : Claim7 := { stood := { row := fnExactPackOkRow, standIns := [], harness := (true, "82ebceaa6d0748f14628ee31210e7f4ff578ded901cb181bc05aec3139a477f8"), looks := true }, kinds := [], alts := [], laidByText := true, laidKinds := [.data, .data, .data, .data, .sentinel, .sentinel, .pinned], laidTests := true, laidLooks := .later }
def FnExactPackOkCardSaid : Prop := Claim7.holds Tryz.pinned (.plain (OpenSpec.ofChange fnExactPackOkSpec)) fnExactPackOkCard

/-- THE TIED CARD OF 'laws.FnExactNewest'. -/
def fnExactNewestCard : Claim7 := { stood := { row := fnExactNewestRow, standIns := [], harness := (true, "82ebceaa6d0748f14628ee31210e7f4ff578ded901cb181bc05aec3139a477f8"), looks := true }, kinds := [], alts := [], laidByText := true, laidKinds := [.data, .data, .data, .data, .sentinel, .sentinel, .pinned], laidTests := true, laidLooks := .later }
def FnExactNewestCardSaid : Prop := Claim7.holds Tryz.pinned (.plain (OpenSpec.ofChange fnExactNewestSpec)) fnExactNewestCard

/-- THE TIED CARD OF 'laws.FnExactSortVersions'. -/
def fnExactSortVersionsCard : Claim7 := { stood := { row := fnExactSortVersionsRow, standIns := [], harness := (true, "82ebceaa6d0748f14628ee31210e7f4ff578ded901cb181bc05aec3139a477f8"), looks := true }, kinds := [], alts := [], laidByText := true, laidKinds := [.data, .data, .data, .data, .sentinel, .sentinel, .pinned], laidTests := true, laidLooks := .later }
def FnExactSortVersionsCardSaid : Prop := Claim7.holds Tryz.pinned (.plain (OpenSpec.ofChange fnExactSortVersionsSpec)) fnExactSortVersionsCard

/-- THE SECOND FORM's CARD OF 'laws.FnExactIn'. -/
def fnExactInUptoCard : Claim7 := { stood := { row := fnExactInUptoRow, standIns := [], harness := (true, "82ebceaa6d0748f14628ee31210e7f4ff578ded901cb181bc05aec3139a477f8"), looks := true }, kinds := [], alts := [], laidByText := true, laidKinds := [.data, .data, .data, .data, .sentinel, .sentinel, .pinned], laidTests := true, laidLooks := .later }
def FnExactInUptoCardSaid : Prop := Claim7.holds Tryz.pinned (.plain (OpenSpec.upto fnExactInSpec)) fnExactInUptoCard

/-- THE SECOND FORM's CARD OF 'laws.FnExactPackOk'. -/
def fnExactPackOkUptoCard : Claim7 := { stood := { row := fnExactPackOkUptoRow, standIns := [], harness := (true, "82ebceaa6d0748f14628ee31210e7f4ff578ded901cb181bc05aec3139a477f8"), looks := true }, kinds := [], alts := [], laidByText := true, laidKinds := [.data, .data, .data, .data, .sentinel, .sentinel, .pinned], laidTests := true, laidLooks := .later }
def FnExactPackOkUptoCardSaid : Prop := Claim7.holds Tryz.pinned (.plain (OpenSpec.upto fnExactPackOkSpec)) fnExactPackOkUptoCard

/-- THE SECOND FORM's CARD OF 'laws.FnExactNewest'. -/
def fnExactNewestUptoCard : Claim7 := { stood := { row := fnExactNewestUptoRow, standIns := [], harness := (true, "82ebceaa6d0748f14628ee31210e7f4ff578ded901cb181bc05aec3139a477f8"), looks := true }, kinds := [], alts := [], laidByText := true, laidKinds := [.data, .data, .data, .data, .sentinel, .sentinel, .pinned], laidTests := true, laidLooks := .later }
def FnExactNewestUptoCardSaid : Prop := Claim7.holds Tryz.pinned (.plain (OpenSpec.upto fnExactNewestSpec)) fnExactNewestUptoCard

/-- THE SECOND FORM's CARD OF 'laws.FnExactSortVersions'. -/
def fnExactSortVersionsUptoCard : Claim7 := { stood := { row := fnExactSortVersionsUptoRow, standIns := [], harness := (true, "82ebceaa6d0748f14628ee31210e7f4ff578ded901cb181bc05aec3139a477f8"), looks := true }, kinds := [], alts := [], laidByText := true, laidKinds := [.data, .data, .data, .data, .sentinel, .sentinel, .pinned], laidTests := true, laidLooks := .later }
def FnExactSortVersionsUptoCardSaid : Prop := Claim7.holds Tryz.pinned (.plain (OpenSpec.upto fnExactSortVersionsSpec)) fnExactSortVersionsUptoCard
end Rows
end Go.Proofs.YtbepbfibanmhoaaGreatDoor
