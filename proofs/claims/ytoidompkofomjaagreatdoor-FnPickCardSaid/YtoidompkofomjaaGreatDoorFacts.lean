/- A part of the proof that the law FnPick answers true at every input that its row speaks of. Conditions: the row's own. -/
import Derived.Test.YtoidompkofomjaaGreatDoorRows
import Derived.WalkKit
import Derived.ProofKit
import Derived.JoinedOf
import Derived.SevenTiedAt
namespace Go.Proofs.YtoidompkofomjaaGreatDoor.Facts
open Go
theorem and_mk {a b : Bool} (h1 : a = true) (h2 : b = true) : (a && b) = true := by rw [h1, h2]; rfl
theorem laidOut : laidOutB Tryz.prog = true := by kernel_rfl
theorem mapsRowed : mapsRowed Tryz.prog = true := by kernel_rfl
theorem heard : Tryz.prog.stopsHeard = true := by kernel_rfl
theorem mayEnter : Tryz.prog.mayEnter = true := by kernel_rfl
theorem plainKeys0 : (Rows.fnPickRow.plainKeys == Tryz.prog.plainKeys) = true := by kernel_rfl
theorem plainKeys (c : OpenClaim) (h : c.plainKeys = Rows.fnPickRow.plainKeys) : (c.plainKeys == Tryz.prog.plainKeys) = true := by rw [h]; exact plainKeys0
theorem lifts0 : (Rows.fnPickRow.lifted == Tryz.prog.liftsFinal) = true := by kernel_rfl
theorem lifts (c : OpenClaim) (h : c.lifted = Rows.fnPickRow.lifted) : (c.lifted == Tryz.prog.liftsFinal) = true := by rw [h]; exact lifts0
theorem make0 : (Tryz.prog.make == some Rows.fnPickRow.make) = true := by kernel_rfl
theorem make (c : OpenClaim) (h : c.make = Rows.fnPickRow.make) : (Tryz.prog.make == some c.make) = true := by rw [h]; exact make0
theorem looks : true = Tryz.prog.looks [] := by kernel_rfl
theorem main : Tryz.prog.mainIs = some (true, "0f055b3141685a2a35e62f99974fd5847a961b58a52a86efcc35f88913c6250e".toList) := by kernel_rfl
end Go.Proofs.YtoidompkofomjaaGreatDoor.Facts

