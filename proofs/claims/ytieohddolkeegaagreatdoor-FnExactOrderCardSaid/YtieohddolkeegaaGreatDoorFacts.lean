/- A part of the proof that the law FnExactOrder answers true at every input that its row speaks of. Conditions: the row's own. -/
import Derived.Test.YtieohddolkeegaaGreatDoorRows
import Derived.WalkKit
import Derived.ProofKit
import Derived.JoinedOf
import Derived.SevenTiedAt
namespace Go.Proofs.YtieohddolkeegaaGreatDoor.Facts
open Go
theorem and_mk {a b : Bool} (h1 : a = true) (h2 : b = true) : (a && b) = true := by rw [h1, h2]; rfl
theorem laidOut : laidOutB Tryz.prog = true := by kernel_rfl
theorem mapsRowed : mapsRowed Tryz.prog = true := by kernel_rfl
theorem heard : Tryz.prog.stopsHeard = true := by kernel_rfl
theorem mayEnter : Tryz.prog.mayEnter = true := by kernel_rfl
theorem plainKeys0 : (Rows.fnRangeRow.plainKeys == Tryz.prog.plainKeys) = true := by kernel_rfl
theorem plainKeys (c : OpenClaim) (h : c.plainKeys = Rows.fnRangeRow.plainKeys) : (c.plainKeys == Tryz.prog.plainKeys) = true := by rw [h]; exact plainKeys0
theorem lifts0 : (Rows.fnRangeRow.lifted == Tryz.prog.liftsFinal) = true := by kernel_rfl
theorem lifts (c : OpenClaim) (h : c.lifted = Rows.fnRangeRow.lifted) : (c.lifted == Tryz.prog.liftsFinal) = true := by rw [h]; exact lifts0
theorem make0 : (Tryz.prog.make == some Rows.fnRangeRow.make) = true := by kernel_rfl
theorem make (c : OpenClaim) (h : c.make = Rows.fnRangeRow.make) : (Tryz.prog.make == some c.make) = true := by rw [h]; exact make0
theorem looks : true = Tryz.prog.looks [] := by kernel_rfl
theorem main : Tryz.prog.mainIs = some (true, "aaa8ac62a1d3cd2a3e7b6dec28b614cccdf9daec6cfbf6e9ac568b10317d6064".toList) := by kernel_rfl
end Go.Proofs.YtieohddolkeegaaGreatDoor.Facts

