/- A world for the rows' witness: the settled one, the package tables holding what the rows list. Written by wip/tools/mklaid.py. -/
import Derived.Test.YtgfaphlpkjikkaaDoorRows
import Derived.WideWitness
import Derived.WalkKit
import Derived.Deep.DeepWitnessRowRef
import Derived.Lib.LaidTab
import Derived.Lib.LaidU8
import Derived.Lib.LaidCaseMet
import Derived.PinnedBridge
import Derived.Test.YtgfaphlpkjikkaaDoorGlob
namespace Go.Proofs.YtgfaphlpkjikkaaDoor.Laid
open Go
noncomputable def world (os : Os) : World :=
  let N := (World.settled Tryd.prog os).heap.size
  let w0 := World.holding Tryd.prog os ⟨#[.cells Lib.caseCells5 179, .cells #[.string ⟨#[118, 97, 108, 117, 101, 32, 111, 117, 116, 32, 111, 102, 32, 114, 97, 110, 103, 101]⟩] 172, .cells #[.string ⟨#[105, 110, 118, 97, 108, 105, 100, 32, 115, 121, 110, 116, 97, 120]⟩] 172], #[], []⟩
  let put (h : Array Obj) (g : Nat) (cs : Array Value) : Array Obj := h.modify g fun
    | .cells _ t frozen => .cells cs t frozen
    | o => o
  let h0 := w0.heap
  let h1 := put h0 5 #[.int .u8 128, .int .u8 191, .int .u8 160, .int .u8 191, .int .u8 128, .int .u8 159, .int .u8 144, .int .u8 191, .int .u8 128, .int .u8 143, .int .u8 0, .int .u8 0, .int .u8 0, .int .u8 0, .int .u8 0, .int .u8 0, .int .u8 0, .int .u8 0, .int .u8 0, .int .u8 0, .int .u8 0, .int .u8 0, .int .u8 0, .int .u8 0, .int .u8 0, .int .u8 0, .int .u8 0, .int .u8 0, .int .u8 0, .int .u8 0, .int .u8 0, .int .u8 0]
  let h2 := put h1 4 (Lib.firstTab.map fun z => Value.int .u8 z).toArray
  let h3 := put h2 7 #[.int .u8 0, .int .u8 1, .int .u8 28, .int .u8 2, .int .u8 29, .int .u8 14, .int .u8 24, .int .u8 3, .int .u8 30, .int .u8 22, .int .u8 20, .int .u8 15, .int .u8 25, .int .u8 17, .int .u8 4, .int .u8 8, .int .u8 31, .int .u8 27, .int .u8 13, .int .u8 23, .int .u8 21, .int .u8 19, .int .u8 16, .int .u8 7, .int .u8 26, .int .u8 12, .int .u8 18, .int .u8 6, .int .u8 11, .int .u8 5, .int .u8 10, .int .u8 9]
  let h4 := put h3 8 #[.int .u8 0, .int .u8 1, .int .u8 56, .int .u8 2, .int .u8 57, .int .u8 49, .int .u8 28, .int .u8 3, .int .u8 61, .int .u8 58, .int .u8 42, .int .u8 50, .int .u8 38, .int .u8 29, .int .u8 17, .int .u8 4, .int .u8 62, .int .u8 47, .int .u8 59, .int .u8 36, .int .u8 45, .int .u8 43, .int .u8 51, .int .u8 22, .int .u8 53, .int .u8 39, .int .u8 33, .int .u8 30, .int .u8 24, .int .u8 18, .int .u8 12, .int .u8 5, .int .u8 63, .int .u8 55, .int .u8 48, .int .u8 27, .int .u8 60, .int .u8 41, .int .u8 37, .int .u8 16, .int .u8 46, .int .u8 35, .int .u8 44, .int .u8 21, .int .u8 52, .int .u8 32, .int .u8 23, .int .u8 11, .int .u8 54, .int .u8 26, .int .u8 40, .int .u8 15, .int .u8 34, .int .u8 20, .int .u8 31, .int .u8 10, .int .u8 25, .int .u8 14, .int .u8 19, .int .u8 9, .int .u8 13, .int .u8 8, .int .u8 7, .int .u8 6]
  let h5 := put h4 6 #[.int .u64 1, .int .u64 10, .int .u64 100, .int .u64 1000, .int .u64 10000, .int .u64 100000, .int .u64 1000000, .int .u64 10000000, .int .u64 100000000, .int .u64 1000000000, .int .u64 10000000000, .int .u64 100000000000, .int .u64 1000000000000, .int .u64 10000000000000, .int .u64 100000000000000, .int .u64 1000000000000000, .int .u64 10000000000000000, .int .u64 100000000000000000, .int .u64 1000000000000000000, .int .u64 10000000000000000000]
  let h6 := put h5 1 #[.slice (some ⟨N + 0, 0, none⟩) Lib.caseA.size Lib.caseA.size]
  let h7 := put h6 3 #[.iface 170 (.pointer (some ⟨N + 1, 0, none⟩))]
  let h8 := put h7 2 #[.iface 170 (.pointer (some ⟨N + 2, 0, none⟩))]
  { w0 with heap := h8 }
def fuel : Nat := 400
set_option maxRecDepth 100000 in
theorem vars (os : Os) (args : Array Value) : ((world os).forCall (fun _ _ => 0) ⟨#[], args, []⟩).variablesRefB Tryd.checked.prog = true := by kernel_rfl
set_option maxRecDepth 100000 in
theorem heap (os : Os) (args : Array Value) : (((world os).forCall (fun _ _ => 0) ⟨#[], args, []⟩).heap.toList.drop Tryd.checked.prog.globals.size).take ((begin Tryd.checked.prog (fun _ _ => 0) default).world.heap.size - Tryd.checked.prog.globals.size) = (begin Tryd.checked.prog (fun _ _ => 0) default).world.heap.toList.drop Tryd.checked.prog.globals.size := by kernel_rfl
theorem split {P : Program} {w : World} : ∀ {l l' : List (String × DataW Unit)} {ps : List MemPlace}, DataW.LaidVars P w (l ++ l') ps → ∃ p p', DataW.LaidVars P w l p ∧ DataW.LaidVars P w l' p' ∧ ps = p ++ p'
  | [], _, ps, h => ⟨[], ps, rfl, h, rfl⟩
  | (n, d) :: r, l', ps, h => by
    obtain ⟨g, t, cs, fuel, p, q, h1, h2, h3, h4, h5, rfl⟩ := h
    obtain ⟨a, b, ha, hb, rfl⟩ := split h5
    exact ⟨_, b, ⟨g, t, cs, fuel, p, a, h1, h2, h3, h4, ha, rfl⟩, hb, by simp [List.append_assoc]⟩
theorem mid {P : Program} {w : World} {l1 l2 : List (String × DataW Unit)} {c : String × DataW Unit} (h : laidMet P ((l1 ++ l2) ++ [c]) w) : laidMet P (l1 ++ c :: l2) w := by
  obtain ⟨ps, h1, h2, h3⟩ := h
  obtain ⟨p12, pc, a, b, rfl⟩ := split h1
  obtain ⟨p1, p2, a1, a2, rfl⟩ := split a
  have hp : ((p1 ++ p2) ++ pc).Perm (p1 ++ (pc ++ p2)) := by
    rw [List.append_assoc]; exact List.Perm.append_left p1 List.perm_append_comm
  refine ⟨p1 ++ (pc ++ p2), Go.Proofs.LaidVars_append a1 (Go.Proofs.LaidVars_append (l := [c]) b a2), hp.nodup_iff.1 h2, fun bl off hm => h3 bl off (hp.mem_iff.2 hm)⟩
/-- Where the case table's rows lie. -/
noncomputable def R (os : Os) : Nat := (World.settled Tryd.prog os).heap.size + 0
def T : TypeId := 179
theorem R_ne (os : Os) : Tryd.lays159_ren.g 13 ≠ R os := of_decide_eq_true (by kernel_rfl)
end Go.Proofs.YtgfaphlpkjikkaaDoor.Laid
