/- A part of the proof that the law FnExactPackOk answers true at every input that its row speaks of. Conditions: the row's own. -/
import Derived.Test.YtbepbfibanmhoaaGreatDoorRows
import Derived.WalkKit
import Derived.ProofKit
import Derived.JoinedOf
import Derived.SevenTiedAt
namespace Go.Proofs.YtbepbfibanmhoaaGreatDoor.Facts
open Go
theorem and_mk {a b : Bool} (h1 : a = true) (h2 : b = true) : (a && b) = true := by rw [h1, h2]; rfl
theorem laidOut : laidOutB Tryz.prog = true := by kernel_rfl
theorem mapsRowed : mapsRowed Tryz.prog = true := by kernel_rfl
theorem heard : Tryz.prog.stopsHeard = true := by kernel_rfl
theorem mayEnter : Tryz.prog.mayEnter = true := by kernel_rfl
theorem plainKeys0 : (Rows.fnExactInRow.plainKeys == Tryz.prog.plainKeys) = true := by kernel_rfl
theorem plainKeys (c : OpenClaim) (h : c.plainKeys = Rows.fnExactInRow.plainKeys) : (c.plainKeys == Tryz.prog.plainKeys) = true := by rw [h]; exact plainKeys0
theorem lifts0 : (Rows.fnExactInRow.lifted == Tryz.prog.liftsFinal) = true := by kernel_rfl
theorem lifts (c : OpenClaim) (h : c.lifted = Rows.fnExactInRow.lifted) : (c.lifted == Tryz.prog.liftsFinal) = true := by rw [h]; exact lifts0
theorem make0 : (Tryz.prog.make == some Rows.fnExactInRow.make) = true := by kernel_rfl
theorem make (c : OpenClaim) (h : c.make = Rows.fnExactInRow.make) : (Tryz.prog.make == some c.make) = true := by rw [h]; exact make0
theorem looks : true = Tryz.prog.looks [] := by kernel_rfl
theorem main : Tryz.prog.mainIs = some (true, "82ebceaa6d0748f14628ee31210e7f4ff578ded901cb181bc05aec3139a477f8".toList) := by kernel_rfl
end Go.Proofs.YtbepbfibanmhoaaGreatDoor.Facts

