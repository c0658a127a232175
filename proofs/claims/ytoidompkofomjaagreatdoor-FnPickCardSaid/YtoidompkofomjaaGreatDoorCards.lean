/-
  DERIVED. GIVEN WITH THE SEED: THE CARDS: each row of YtoidompkofomjaaGreatDoorRows.lean that lists a variable, with what it lists TIED to the program's text (the seventh form; the later family's looks); each row that meets fmt, with fmt's text TOLD by the authors' own Lean function (tested against real Go, not proved from fmt's source: count such statements apart). THE CARD IS WHAT COUNTS. Prove the row's statement (the work); the ties are given (YtoidompkofomjaaGreatDoorTie.lean); close each card by the builder's one call (the guide's Derived/Test/ToyasCard.lean, 'card_holds'). Laid BY PROGRAM, IN A SANDBOX (cutbox-door.mjs). By AI agents, Wed Nov 11 2026. No macro, syntax, notation, axiom, sorry.
-/
import Derived.Test.YtoidompkofomjaaGreatDoorRows
import GoSem.ClaimSeven
namespace Go.Proofs.YtoidompkofomjaaGreatDoor
namespace Rows

/-- THE TIED CARD OF 'laws.FnPick'. -/
def fnPickCard : Claim7 := { stood := { row := fnPickRow, standIns := [], harness := (true, "0f055b3141685a2a35e62f99974fd5847a961b58a52a86efcc35f88913c6250e"), looks := true }, kinds := [], alts := [], laidByText := true, laidKinds := [.data, .data, .data, .data, .sentinel, .sentinel, .pinned], laidTests := true, laidLooks := .later }
def FnPickCardSaid : Prop := Claim7.holds Tryz.pinned (.plain (OpenSpec.ofChange fnPickSpec)) fnPickCard

/-- THE SECOND FORM's CARD OF 'laws.FnPick'. -/
def fnPickUptoCard : Claim7 := { stood := { row := fnPickUptoRow, standIns := [], harness := (true, "0f055b3141685a2a35e62f99974fd5847a961b58a52a86efcc35f88913c6250e"), looks := true }, kinds := [], alts := [], laidByText := true, laidKinds := [.data, .data, .data, .data, .sentinel, .sentinel, .pinned], laidTests := true, laidLooks := .later }
def FnPickUptoCardSaid : Prop := Claim7.holds Tryz.pinned (.plain (OpenSpec.upto fnPickSpec)) fnPickUptoCard
end Rows
end Go.Proofs.YtoidompkofomjaaGreatDoor
