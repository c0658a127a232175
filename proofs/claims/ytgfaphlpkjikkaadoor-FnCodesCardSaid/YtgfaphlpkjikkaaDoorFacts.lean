/- Closed facts of the seat's program that every row and card asks for. Written by wip/tools/mkfacts.py. -/
import Derived.Test.YtgfaphlpkjikkaaDoorRows
import Derived.WalkKit
import Derived.ProofKit
import Derived.JoinedOf
import Derived.SevenTiedAt
namespace Go.Proofs.YtgfaphlpkjikkaaDoor.Facts
open Go
theorem and_mk {a b : Bool} (h1 : a = true) (h2 : b = true) : (a && b) = true := by rw [h1, h2]; rfl
theorem laidOut : laidOutB Tryd.prog = true := by kernel_rfl
theorem mapsRowed : mapsRowed Tryd.prog = true := by kernel_rfl
theorem heard : Tryd.prog.stopsHeard = true := by kernel_rfl
theorem mayEnter : Tryd.prog.mayEnter = true := by kernel_rfl
theorem plainKeys0 : (Rows.fnExactIndentRow.plainKeys == Tryd.prog.plainKeys) = true := by kernel_rfl
theorem plainKeys (c : OpenClaim) (h : c.plainKeys = Rows.fnExactIndentRow.plainKeys) : (c.plainKeys == Tryd.prog.plainKeys) = true := by rw [h]; exact plainKeys0
theorem lifts0 : (Rows.fnExactIndentRow.lifted == Tryd.prog.liftsFinal) = true := by kernel_rfl
theorem lifts (c : OpenClaim) (h : c.lifted = Rows.fnExactIndentRow.lifted) : (c.lifted == Tryd.prog.liftsFinal) = true := by rw [h]; exact lifts0
theorem make0 : (Tryd.prog.make == some Rows.fnExactIndentRow.make) = true := by kernel_rfl
theorem make (c : OpenClaim) (h : c.make = Rows.fnExactIndentRow.make) : (Tryd.prog.make == some c.make) = true := by rw [h]; exact make0
theorem looks : true = Tryd.prog.looks [] := by kernel_rfl
theorem main : Tryd.prog.mainIs = some (true, "28ca76327ae5c99ad1391ce07655eb12dc7db72c1b7608e32114c0271da8a8b9".toList) := by kernel_rfl
end Go.Proofs.YtgfaphlpkjikkaaDoor.Facts
