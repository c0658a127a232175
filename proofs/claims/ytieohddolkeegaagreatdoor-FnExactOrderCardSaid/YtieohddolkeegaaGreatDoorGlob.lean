/- A part of the proof that the law FnExactOrder answers true at every input that its row speaks of. Conditions: the row's own. -/
import Derived.Test.YtieohddolkeegaaGreatDoorShelf
import Derived.Below
import Derived.Lib.LaidTab
import Derived.Lib.LaidU8
import Derived.Lib.LaidCase
import Derived.PinnedBridge
namespace Go.Proofs.YtieohddolkeegaaGreatDoor.G
open Go Go.RowKit Go.ChangeShapes Go.WideShapes
structure Glob (F : World → Prop) (w : World) : Prop where
  old : ∃ W, F W ∧ Below W.heap.size W w
theorem Glob.mk' {F : World → Prop} {w : World} (h : F w) : Glob F w := ⟨⟨w, h, Below.refl _ _⟩⟩
theorem Glob.below {F : World → Prop} {w w1 : World} (h : Glob F w) (b : Below w.heap.size w w1) : Glob F w1 := by
  obtain ⟨⟨W, hF, hb⟩⟩ := h
  exact ⟨⟨W, hF, hb.trans (b.mono hb.size)⟩⟩
theorem var_below {P : Program} {W w : World} {n : String} {cs : Array Value} (h : Below W.heap.size W w) (hv : W.var? P n = some cs) : w.var? P n = some cs := by
  unfold World.var? at hv ⊢
  obtain ⟨g, hg, hv⟩ := Option.bind_eq_some_iff.1 hv
  rw [hg, Option.bind_some]
  have hlt : g < W.heap.size := by
    by_cases hh : g < W.heap.size
    · exact hh
    · rw [Array.getElem?_eq_none (Nat.le_of_not_lt hh)] at hv; cases hv
  rw [h.block g hlt]; exact hv
def FactM (w : World) : Prop := ∃ m, w.cell? ⟨0, 0, none⟩ = some (.int .i64 m)
theorem FactM.here {w : World} (h : Glob FactM w) : ∃ m, w.cell? ⟨0, 0, none⟩ = some (.int .i64 m) := by
  obtain ⟨⟨W, ⟨m, hm⟩, b⟩⟩ := h
  exact ⟨m, (b.cell (World.block_lt_of_cell? W _ hm)).trans hm⟩
theorem FactM.start {w : World} (h : w.ShapedOpen Tryz.prog) : Glob FactM w := Glob.mk' (Tryz.laysM146.s1_3 w h)
theorem FactM_of {w : World} {l : List (String × DataW Unit)} (h : w.ShapedOpen Tryz.prog) (_ : laidMetH Tryz.prog l w) : Glob FactM w := FactM.start h
def FactT (w : World) : Prop := Lib.TabIs Tryz.prog w "internal/strconv.uint64pow10" .u64 Lib.pow10Tab
theorem FactT.here {w : World} (h : Glob FactT w) : Lib.TabIs Tryz.prog w "internal/strconv.uint64pow10" .u64 Lib.pow10Tab := by
  obtain ⟨⟨W, hW, b⟩⟩ := h
  exact var_below b hW
theorem FactT_of {w : World} {l : List (String × DataW Unit)} (_ : w.ShapedOpen Tryz.prog) (hL : laidMetH Tryz.prog l w) (hl : laidMetH Tryz.prog l w → laidMet Tryz.prog l w) (hm : ("internal/strconv.uint64pow10", Lib.tabData .u64 Lib.pow10Tab) ∈ l) : Glob FactT w := by
  obtain ⟨g, t, cs, fuel, p, hg, ht, hv, hd⟩ := Lib.laidMet.reads (hl hL) hm
  obtain rfl := Option.some.inj ((show Tryz.prog.globalNamed "internal/strconv.uint64pow10" = some 5 by kernel_rfl).symm.trans hg)
  obtain rfl := Option.some.inj ((show (Tryz.prog.globals[5]?).map (·.type) = some 230 by kernel_rfl).symm.trans ht)
  refine Glob.mk' ?_
  unfold FactT Lib.TabIs
  rw [hv, ← Lib.cells_of_tab Tryz.underlying230 Tryz.underlying165 (by kernel_rfl) (by kernel_rfl) hd]
def FactE (w : World) : Prop := (∃ tp p, w.var? Tryz.prog "strconv.ErrSyntax" = some #[.iface tp p]) ∧ ∃ tp p, w.var? Tryz.prog "strconv.ErrRange" = some #[.iface tp p]
theorem FactE.here {w : World} (h : Glob FactE w) : FactE w := by
  obtain ⟨⟨W, ⟨⟨t1, p1, h1⟩, ⟨t2, p2, h2⟩⟩, b⟩⟩ := h
  exact ⟨⟨t1, p1, var_below b h1⟩, ⟨t2, p2, var_below b h2⟩⟩
set_option maxRecDepth 100000 in
theorem iface_cells {H : Type} {enc : TypeId × Value → H} {w : World} {sp : Nat → Bool} {fuel : Nat} {cs : List Value} {nm : String} {d : DataW H} {p : List MemPlace} (h : DataW.trod enc Tryz.prog w 0 sp false fuel 110 cs = some (.iface nm d, p)) : ∃ tp v, cs = [.iface tp v] := by
  cases fuel with
  | zero => simp [DataW.trod] at h
  | succ fuel =>
    have hu := Tryz.underlying110
    match cs, h with
    | [], h => simp [DataW.trod, hu] at h
    | [v], h => cases v <;> first | (exact ⟨_, _, rfl⟩) | (simp [DataW.trod, hu] at h)
    | _ :: _ :: _, h => simp [DataW.trod, hu] at h
theorem err_of {w : World} {n nm : String} {d : DataW Unit} {g : Nat} (hn : Tryz.prog.globalNamed n = some g) (hty : (Tryz.prog.globals[g]?).map (·.type) = some 110) (h : Lib.VarReads Tryz.prog w n (.iface nm d)) : ∃ tp p, w.var? Tryz.prog n = some #[.iface tp p] := by
  obtain ⟨g', t, cs, fuel, p, hg, ht, hv, hd⟩ := h
  obtain rfl := Option.some.inj (hn.symm.trans hg)
  obtain rfl := Option.some.inj (hty.symm.trans ht)
  obtain ⟨tp, v, e⟩ := iface_cells hd
  obtain rfl : cs = #[.iface tp v] := Array.toList_inj.1 e
  exact ⟨tp, v, hv⟩
theorem FactE_of {w : World} {l : List (String × DataW Unit)} {n1 n2 : String} {d1 d2 : DataW Unit} (_ : w.ShapedOpen Tryz.prog) (hL : laidMetH Tryz.prog l w) (hl : laidMetH Tryz.prog l w → laidMet Tryz.prog l w) (h1 : ("strconv.ErrSyntax", .iface n1 d1) ∈ l) (h2 : ("strconv.ErrRange", .iface n2 d2) ∈ l) : Glob FactE w :=
  Glob.mk' ⟨err_of (g := 3) (by kernel_rfl) (by kernel_rfl) (Lib.laidMet.reads (hl hL) h1), err_of (g := 4) (by kernel_rfl) (by kernel_rfl) (Lib.laidMet.reads (hl hL) h2)⟩
end Go.Proofs.YtieohddolkeegaaGreatDoor.G

