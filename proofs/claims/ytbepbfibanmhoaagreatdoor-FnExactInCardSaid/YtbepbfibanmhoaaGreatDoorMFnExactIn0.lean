/- What is proved: the law FnExactIn answers true at every input that its row speaks of (part 1 of 2 of its proof, merged by wip/tools/merge.py). Conditions: the row's own. -/
import Derived.Test.YtbepbfibanmhoaaGreatDoorG0
import Derived.Test.YtbepbfibanmhoaaGreatDoorGspecReadVersion
import Derived.Test.YtbepbfibanmhoaaGreatDoorGspecRangeOk
import Derived.Test.YtbepbfibanmhoaaGreatDoorGspecl03Takes
import Derived.Test.YtbepbfibanmhoaaGreatDoorGimplReadVersion
import Derived.Test.YtbepbfibanmhoaaGreatDoorGimplCompareVersion
import Derived.Test.YtbepbfibanmhoaaGreatDoorGimplRangeOk
import Derived.Test.YtbepbfibanmhoaaGreatDoorVMore
import Derived.Lib.Strings
import Derived.Laws.BitsLemmas
import Derived.Lib.AtoiAll
import Derived.Lib.ItoaNum
section
-- PRINTED by print.py (a twelfth state) out of the translation. Not trusted: Lean checks it.
namespace Go.Proofs.YtbepbfibanmhoaaGreatDoor.G
open Go.RowKit Go.Proofs.YtbepbfibanmhoaaGreatDoorW.PrintWords Go.Proofs.YtbepbfibanmhoaaGreatDoorW.PrintLast Go.Proofs.YtbepbfibanmhoaaGreatDoorW.PrintMore
attribute [local go_sem] max2_int min2_int max_two min_two max_three min_three max_four min_four   -- for this text's walks alone
attribute [local go_sem high] Go.Proofs.YtbepbfibanmhoaaGreatDoor.G.str_gtr Go.Proofs.YtbepbfibanmhoaaGreatDoor.G.str_leq Go.Proofs.YtbepbfibanmhoaaGreatDoor.G.str_geq
set_option linter.unusedVariables false
set_option linter.unusedSimpArgs false

/-! ### laws_szBound: function 26 -/
def laws_szBound.f (a0_0 : ByteArray) (a0_1 : ByteArray) (a1 : Int) : Option (Int) := if (wrap64 (a1 - (a0_0.size : Int))) < 0 then (some (-1)) else (if (wrap64 ((wrap64 (a1 - (a0_0.size : Int))) - (a0_1.size : Int))) < 0 then (some (-1)) else (some (wrap64 ((wrap64 (a1 - (a0_0.size : Int))) - (a0_1.size : Int)))))
set_option maxRecDepth 100000 in
theorem laws_szBound.zl1 {P : Prop} (h : P := by
 go_enter Tryz.func26, Tryz.ntmps26
 go_wp2_with (first | ((with_reducible refine gate_dst (N := 2) rfl ?_); refine box_event ?hg (N := 2) ?hd (cs := #[.string a0_0, .string a0_1]) (t := 48) ?hr ?_; (case hd => rfl); (case hg => rfl); (case hr => first | (go_simp; done) | (go_simp; rfl)); intro gb101 hg w9 hbox hb; have n0_ := Aside0.mk (below_step zb0 hb); have n1_ := Aside0.mk (hbox); have n2_ := Aside0.mk ((by rw [hg]; exact (below_size zb0) : w.heap.size ≤ gb101)); have n3_ := Aside0.mk ((by rw [hg]; exact (below_size zb0) : w.heap.size ≤ gb101)); clear HB; have HB := n0_; have BK101 := n1_; have GW101 := n2_; have GE101 := n3_; clear n0_ n1_ n2_ n3_; clear hb hbox hg; have hcz10_0 : w9.cell? ⟨gb101, 0, none⟩ = some (.string a0_0) := (blk_cell BK101.out 0).trans rfl; have hcz10_1 : w9.cell? ⟨gb101, 1, none⟩ = some (.string a0_1) := (blk_cell BK101.out 1).trans rfl; have hfz10_0 := blk_frozen BK101.out 0; have hfz10_1 := blk_frozen BK101.out 1))
 go_ret
 exact ⟨zb6, by repeat (first | (with_reducible first | exact HB.out | apply below_alloc | apply pw_below_drewN | apply below_drew1 | refine below_set ?_ GE101.out) | exact HB.out)⟩) : P := h
set_option maxHeartbeats 8000000 in
set_option maxRecDepth 100000 in
theorem laws_szBound.calls (a0_0 : ByteArray) (a0_1 : ByteArray) (a1 : Int) (r : Int) (w : World) (h : laws_szBound.f a0_0 a0_1 a1 = some r) :
  Calls Tryz.prog 26 #[.agg #[.string a0_0, .string a0_1], .int .i64 a1] w fun e w' => e = .returned (.int .i64 r) ∧ Below w.heap.size w w' := by
 have hu48 := Tryz.underlying48
 have HB := Aside0.mk (Below.refl w.heap.size w)
 have H : (if (wrap64 (a1 - (a0_0.size : Int))) < 0 then (some (-1)) else (if (wrap64 ((wrap64 (a1 - (a0_0.size : Int))) - (a0_1.size : Int))) < 0 then (some (-1)) else (some (wrap64 ((wrap64 (a1 - (a0_0.size : Int))) - (a0_1.size : Int)))))) = some r := h
 clear h
 by_cases c3 : (wrap64 (a1 - (a0_0.size : Int))) < 0
 ·rw [if_pos c3] at H
  have c3b0 : decide ((wrap64 (a1 - (a0_0.size : Int))) < 0) = true := decide_eq_true c3
  clear c3
  obtain rfl := Option.some.inj H
  exact laws_szBound.zl1
 ·rw [if_neg c3] at H
  have c3b0 : decide ((wrap64 (a1 - (a0_0.size : Int))) < 0) = false := decide_eq_false c3
  clear c3
  by_cases c6 : (wrap64 ((wrap64 (a1 - (a0_0.size : Int))) - (a0_1.size : Int))) < 0
  ·rw [if_pos c6] at H
   have c6b0 : decide ((wrap64 ((wrap64 (a1 - (a0_0.size : Int))) - (a0_1.size : Int))) < 0) = true := decide_eq_true c6
   clear c6
   obtain rfl := Option.some.inj H
   exact laws_szBound.zl1
  ·rw [if_neg c6] at H
   have c6b0 : decide ((wrap64 ((wrap64 (a1 - (a0_0.size : Int))) - (a0_1.size : Int))) < 0) = false := decide_eq_false c6
   clear c6
   obtain rfl := Option.some.inj H
   exact laws_szBound.zl1

end Go.Proofs.YtbepbfibanmhoaaGreatDoor.G
end

section
-- PRINTED by print.py (a twelfth state) out of the translation. Not trusted: Lean checks it.
namespace Go.Proofs.YtbepbfibanmhoaaGreatDoor.G
open Go.RowKit Go.Proofs.YtbepbfibanmhoaaGreatDoorW.PrintWords Go.Proofs.YtbepbfibanmhoaaGreatDoorW.PrintLast Go.Proofs.YtbepbfibanmhoaaGreatDoorW.PrintMore
attribute [local go_sem] max2_int min2_int max_two min_two max_three min_three max_four min_four   -- for this text's walks alone
attribute [local go_sem high] Go.Proofs.YtbepbfibanmhoaaGreatDoor.G.str_gtr Go.Proofs.YtbepbfibanmhoaaGreatDoor.G.str_leq Go.Proofs.YtbepbfibanmhoaaGreatDoor.G.str_geq
set_option linter.unusedVariables false
set_option linter.unusedSimpArgs false

/-! ### laws_szBoundS: function 7 -/
def laws_szBoundS.l0 : Nat → List (S48) → Int → Int → Option (Int)
 | 0, _, _, _ => none
 | k + 1, x0, x1, x5 => if x5 < (x0.length : Int) then (if 0 ≤ x5 then ((laws_szBound.f ((rd_T48 x0 x5).f0) ((rd_T48 x0 x5).f1) x1).bind fun t103 => (if t103 < 0 then (some (-1)) else (laws_szBoundS.l0 k x0 t103 (wrap64 (x5 + 1))))) else (none)) else (some x1)
def laws_szBoundS.f (k : Nat) (l0 : List (S48)) (a1 : Int) : Option (Int) := if (wrap64 (a1 - (l0.length : Int))) < 0 then (some (-1)) else (laws_szBoundS.l0 k l0 (wrap64 (a1 - (l0.length : Int))) 0)
theorem laws_szBoundS.mono_l : ∀ k, (∀ y0 y1 y2, LeO (laws_szBoundS.l0 k y0 y1 y2) (laws_szBoundS.l0 (k + 1) y0 y1 y2))
 | 0 => fun _ _ _ r h => by simp [laws_szBoundS.l0] at h
 | k + 1 => by
  have ih0 := laws_szBoundS.mono_l k
  ·intro y0 y1 y2
   unfold laws_szBoundS.l0
   repeat' first
   | (with_reducible exact ih0 _ _ _)
   | (with_reducible exact LeO.refl _)
   | (with_reducible exact LeO.none _)
   | (with_reducible refine LeO.ite ?_ ?_)
   | (with_reducible refine LeO.bind ?_ (fun _ => ?_))
   | exact ih0 _ _ _
   | exact LeO.none _
   | refine LeO.ite ?_ ?_
   | refine LeO.bind ?_ (fun _ => ?_)
theorem laws_szBoundS.mono : ∀ a0 a1 k, LeO (laws_szBoundS.f k a0 a1) (laws_szBoundS.f (k + 1) a0 a1) := by
 intro a0 a1 k
 have ih0 := laws_szBoundS.mono_l k
 unfold laws_szBoundS.f
 repeat' first
   | (with_reducible exact ih0 _ _ _)
   | (with_reducible exact LeO.refl _)
   | (with_reducible exact LeO.none _)
   | (with_reducible refine LeO.ite ?_ ?_)
   | (with_reducible refine LeO.bind ?_ (fun _ => ?_))
   | exact ih0 _ _ _
   | exact LeO.none _
   | refine LeO.ite ?_ ?_
   | refine LeO.bind ?_ (fun _ => ?_)
set_option maxHeartbeats 8000000 in
set_option maxRecDepth 100000 in
theorem laws_szBoundS.calls (k : Nat) (A0 : Option Addr) (c0 : Nat) (l0 : List (S48)) (a1 : Int) (r : Int) (w : World) (hr0 : Kd.C k48 w A0 l0.length l0) (hc0 : l0.length ≤ c0) (h : laws_szBoundS.f k l0 a1 = some r) :
  Calls Tryz.prog 7 #[.slice A0 l0.length c0, .int .i64 a1] w fun e w' => e = .returned (.int .i64 r) ∧ Below w.heap.size w w' := by
 have hu48 := Tryz.underlying48
 have HR0 := Aside0.mk hr0
 have HC0 := Aside0.mk hc0
 clear hr0 hc0
 have HB := Aside0.mk (Below.refl w.heap.size w)
 have H : (if (wrap64 (a1 - (l0.length : Int))) < 0 then (some (-1)) else (laws_szBoundS.l0 k l0 (wrap64 (a1 - (l0.length : Int))) 0)) = some r := h
 clear h
 by_cases c3 : (wrap64 (a1 - (l0.length : Int))) < 0
 ·rw [if_pos c3] at H
  have c3b0 : decide ((wrap64 (a1 - (l0.length : Int))) < 0) = true := decide_eq_true c3
  clear c3
  obtain rfl := Option.some.inj H
  go_enter Tryz.func7, Tryz.ntmps7
  go_wp2
  go_ret
  exact ⟨zb6, by repeat (first | (with_reducible first | exact HB.out | apply below_alloc | apply pw_below_drewN | apply below_drew1) | exact HB.out)⟩
 ·rw [if_neg c3] at H
  have c3b0 : decide ((wrap64 (a1 - (l0.length : Int))) < 0) = false := decide_eq_false c3
  clear c3
  have H' := Aside0.mk H
  clear H
  go_enter Tryz.func7, Tryz.ntmps7
  go_wp2
  go_loopg [1, 5] k (fun kq v1 v5 w' => ∃ (x1_1 : Int) (x5_1 : Int), v1 = .int .i64 x1_1 ∧ v5 = .int .i64 x5_1 ∧ Aside0 (laws_szBoundS.l0 kq l0 x1_1 x5_1 = some r) ∧ Aside0 (kq ≤ k) ∧ Aside0 (Below w.heap.size w w'))
  case atStart => exact ⟨(wrap64 (a1 - (l0.length : Int))), (0), zb5, zb5, H', ⟨Nat.le_refl _⟩, ⟨by repeat (first | (with_reducible first | exact HB.out | apply below_alloc | apply pw_below_drewN | apply below_drew1) | exact HB.out)⟩⟩
  case round =>
   clear H'
   try clear p2
   try clear c3
   try clear c3b0
   obtain ⟨x1_1, x5_1, rfl, rfl, HA, HK1, HB⟩ := hrel
   cases gk with
   | zero => exact absurd HA.out (by simp [laws_szBoundS.l0])
   | succ k1 =>
    have H := HA.out
    clear HA
    simp only [laws_szBoundS.l0] at H
    by_cases c4 : x5_1 < (l0.length : Int)
    ·rw [if_pos c4] at H
     have c4b0 : decide (x5_1 < (l0.length : Int)) = true := decide_eq_true c4
     clear c4
     by_cases c5 : 0 ≤ x5_1
     ·rw [if_pos c5] at H
      have c5b0 : decide (0 ≤ x5_1) = true := decide_eq_true c5
      clear c5
      replace H := Option.bind_eq_some_iff.mp H
      obtain ⟨t103, A60, H⟩ := H
      replace H : (if t103 < 0 then (some (-1)) else (laws_szBoundS.l0 k1 l0 t103 (wrap64 (x5_1 + 1)))) = some r := H
      have A6 := Aside0.mk A60
      clear A60
      by_cases c7 : t103 < 0
      ·rw [if_pos c7] at H
       have c7b0 : decide (t103 < 0) = true := decide_eq_true c7
       clear c7
       obtain rfl := Option.some.inj H
       have p102 : 0 ≤ (x5_1 : Int) := of_decide_eq_true zb4
       have q102 : x5_1 < (l0.length : Int) := of_decide_eq_true zb4
       obtain ⟨ad102, e102, hx102_0, hx102_1⟩ := at_T48 HR0.out x5_1 p102 q102
       cases e102
       replace hx102_0 := (HB.out.cell (World.block_lt_of_cell? w _ hx102_0)).trans hx102_0
       replace hx102_1 := (HB.out.cell (World.block_lt_of_cell? w _ hx102_1)).trans hx102_1
       replace p102 := eq_true p102
       replace q102 := eq_true q102
       go_wp2_with (first | ((with_reducible refine gate_callee (f := 26) rfl ?_); refine goesL_ (some 23) rfl rfl Tryz.func26 (by kernel_rfl) rfl #[.agg #[.string ((rd_T48 l0 x5_1).f0), .string ((rd_T48 l0 x5_1).f1)], .int .i64 x1_1] rfl zb1 ?_; (with_reducible refine (laws_szBound.calls ((rd_T48 l0 x5_1).f0) ((rd_T48 l0 x5_1).f1) x1_1 t103 _ A6.out).mono ?_); rintro e w8 ⟨rfl, hb⟩; refine ⟨_, rfl, ?_⟩; have n0_ := Aside0.mk (below_step zb0 hb); clear HB; have HB := n0_; clear n0_; (try clear hb); (try clear hb2); (try clear hk); (try clear hi)))
       go_ret
       exact ⟨zb6, by repeat (first | (with_reducible first | exact HB.out | apply below_alloc | apply pw_below_drewN | apply below_drew1) | exact HB.out)⟩
      ·rw [if_neg c7] at H
       have c7b0 : decide (t103 < 0) = false := decide_eq_false c7
       clear c7
       have H' := Aside0.mk H
       clear H
       have p102 : 0 ≤ (x5_1 : Int) := of_decide_eq_true zb4
       have q102 : x5_1 < (l0.length : Int) := of_decide_eq_true zb4
       obtain ⟨ad102, e102, hx102_0, hx102_1⟩ := at_T48 HR0.out x5_1 p102 q102
       cases e102
       replace hx102_0 := (HB.out.cell (World.block_lt_of_cell? w _ hx102_0)).trans hx102_0
       replace hx102_1 := (HB.out.cell (World.block_lt_of_cell? w _ hx102_1)).trans hx102_1
       replace p102 := eq_true p102
       replace q102 := eq_true q102
       go_wp2_with (first | ((with_reducible refine gate_callee (f := 26) rfl ?_); refine goesL_ (some 23) rfl rfl Tryz.func26 (by kernel_rfl) rfl #[.agg #[.string ((rd_T48 l0 x5_1).f0), .string ((rd_T48 l0 x5_1).f1)], .int .i64 x1_1] rfl zb1 ?_; (with_reducible refine (laws_szBound.calls ((rd_T48 l0 x5_1).f0) ((rd_T48 l0 x5_1).f1) x1_1 t103 _ A6.out).mono ?_); rintro e w9 ⟨rfl, hb⟩; refine ⟨_, rfl, ?_⟩; have n0_ := Aside0.mk (below_step zb0 hb); clear HB; have HB := n0_; clear n0_; (try clear hb); (try clear hb2); (try clear hk); (try clear hi)))
       go_roundg k1
       case measure => have := HK1.out; omega
       case rel => exact ⟨(t103), (wrap64 (x5_1 + 1)), zb5, zb5, H', ⟨by have := HK1.out; omega⟩, ⟨by repeat (first | (with_reducible first | exact HB.out | apply below_alloc | apply pw_below_drewN | apply below_drew1) | exact HB.out)⟩⟩
     ·rw [if_neg c5] at H
      exact absurd H (by simp)
    ·rw [if_neg c4] at H
     have c4b0 : decide (x5_1 < (l0.length : Int)) = false := decide_eq_false c4
     clear c4
     obtain rfl := Option.some.inj H
     go_wp2
     go_ret
     exact ⟨zb6, by repeat (first | (with_reducible first | exact HB.out | apply below_alloc | apply pw_below_drewN | apply below_drew1) | exact HB.out)⟩

end Go.Proofs.YtbepbfibanmhoaaGreatDoor.G
end

section
-- PRINTED by print.py (a twelfth state) out of the translation. Not trusted: Lean checks it.
namespace Go.Proofs.YtbepbfibanmhoaaGreatDoor.G
open Go.RowKit Go.Proofs.YtbepbfibanmhoaaGreatDoorW.PrintWords Go.Proofs.YtbepbfibanmhoaaGreatDoorW.PrintLast Go.Proofs.YtbepbfibanmhoaaGreatDoorW.PrintMore
attribute [local go_sem] max2_int min2_int max_two min_two max_three min_three max_four min_four   -- for this text's walks alone
attribute [local go_sem high] Go.Proofs.YtbepbfibanmhoaaGreatDoor.G.str_gtr Go.Proofs.YtbepbfibanmhoaaGreatDoor.G.str_leq Go.Proofs.YtbepbfibanmhoaaGreatDoor.G.str_geq
set_option linter.unusedVariables false
set_option linter.unusedSimpArgs false

/-! ### spec_In: function 8 -/
def spec_In.l0 : Nat → List (S55) → Bool → Int → Int → Int → Int → List ByteArray → Option (Bool)
 | 0, _, _, _, _, _, _, _ => none
 | k + 1, x1, x6, x7, x214000, x214001, x214002, x214003 => if x7 < (x1.length : Int) then (if x6 = true then ((spec_RangeOk.f k x1).bind fun t214 => (if t214 = true then (if 0 ≤ x7 then ((spec_l03Takes.f k ((rd_T55 x1 x7).f0) ((rd_T55 x1 x7).f1) x214000 x214001 x214002 x214003).bind fun t216 => (if t216 = true then (some true) else (spec_In.l0 k x1 x6 (wrap64 (x7 + 1)) x214000 x214001 x214002 x214003))) else (none)) else (spec_In.l0 k x1 x6 (wrap64 (x7 + 1)) x214000 x214001 x214002 x214003))) else (spec_In.l0 k x1 x6 (wrap64 (x7 + 1)) x214000 x214001 x214002 x214003)) else (some false)
def spec_In.f (k : Nat) (a0 : ByteArray) (l1 : List (S55)) : Option (Bool) := (spec_ReadVersion.f k a0).bind fun bt206 => (spec_In.l0 k l1 bt206.2.2.2.2 0 bt206.1 bt206.2.1 bt206.2.2.1 bt206.2.2.2.1)
theorem spec_In.mono_l : ∀ k, (∀ y0 y1 y2 y3 y4 y5 y6, LeO (spec_In.l0 k y0 y1 y2 y3 y4 y5 y6) (spec_In.l0 (k + 1) y0 y1 y2 y3 y4 y5 y6))
 | 0 => fun _ _ _ _ _ _ _ r h => by simp [spec_In.l0] at h
 | k + 1 => by
  have ih0 := spec_In.mono_l k
  ·intro y0 y1 y2 y3 y4 y5 y6
   unfold spec_In.l0
   repeat' first
   | (with_reducible exact ih0 _ _ _ _ _ _ _)
   | (with_reducible exact spec_RangeOk.mono _ _)
   | (with_reducible exact spec_ReadVersion.mono _ _)
   | (with_reducible exact spec_l03Takes.mono _ _ _ _ _ _ _)
   | (with_reducible exact LeO.refl _)
   | (with_reducible exact LeO.none _)
   | (with_reducible refine LeO.ite ?_ ?_)
   | (with_reducible refine LeO.bind ?_ (fun _ => ?_))
   | exact ih0 _ _ _ _ _ _ _
   | exact spec_RangeOk.mono _ _
   | exact spec_ReadVersion.mono _ _
   | exact spec_l03Takes.mono _ _ _ _ _ _ _
   | exact LeO.none _
   | refine LeO.ite ?_ ?_
   | refine LeO.bind ?_ (fun _ => ?_)
theorem spec_In.mono : ∀ a0 a1 k, LeO (spec_In.f k a0 a1) (spec_In.f (k + 1) a0 a1) := by
 intro a0 a1 k
 have ih0 := spec_In.mono_l k
 unfold spec_In.f
 repeat' first
   | (with_reducible exact ih0 _ _ _ _ _ _ _)
   | (with_reducible exact spec_RangeOk.mono _ _)
   | (with_reducible exact spec_ReadVersion.mono _ _)
   | (with_reducible exact spec_l03Takes.mono _ _ _ _ _ _ _)
   | (with_reducible exact LeO.refl _)
   | (with_reducible exact LeO.none _)
   | (with_reducible refine LeO.ite ?_ ?_)
   | (with_reducible refine LeO.bind ?_ (fun _ => ?_))
   | exact ih0 _ _ _ _ _ _ _
   | exact spec_RangeOk.mono _ _
   | exact spec_ReadVersion.mono _ _
   | exact spec_l03Takes.mono _ _ _ _ _ _ _
   | exact LeO.none _
   | refine LeO.ite ?_ ?_
   | refine LeO.bind ?_ (fun _ => ?_)
def spec_In.T5 : Bool × List (List Nat × List Nat) := (true, [([], []), ([0], [0]), ([1], [1]), ([2, 1, 1], [1, 2]), ([1, 3], [1, 3]), ([4, 3], [4]), ([5], [5]), ([5], [5]), ([6, 7, 5], [5, 6, 7]), ([8, 5], [5, 8]), ([5], [5]), ([9, 10, 5, 5], [5, 9, 10]), ([5, 11], [5, 11])])
def spec_In.B5 : List Nat := [0, 1, 3, 7, 15, 31, 63, 63, 255, 511, 63, 2047, 4095]
theorem spec_In.tab5 : rtab .any (opsOf Tryz.f8 5) = spec_In.T5 := by kernel_rfl
theorem spec_In.bits5 : waitsOk spec_In.T5.2 spec_In.B5 = true := by kernel_rfl
set_option maxHeartbeats 8000000 in
set_option maxRecDepth 100000 in
theorem spec_In.calls (k : Nat) (a0 : ByteArray) (A1 : Option Addr) (c1 : Nat) (l1 : List (S55)) (r : Bool) (w : World) (hr1 : Kd.C k55 w A1 l1.length l1) (hc1 : l1.length ≤ c1) (h : spec_In.f k a0 l1 = some r) :
  Calls Tryz.prog 8 #[.string a0, .slice A1 l1.length c1] w fun e w' => e = .returned (.bool r) ∧ Below w.heap.size w w' := by
 have hu50 := Tryz.underlying50
 have hu55 := Tryz.underlying55
 have HR1 := Aside0.mk hr1
 have HC1 := Aside0.mk hc1
 clear hr1 hc1
 have HB := Aside0.mk (Below.refl w.heap.size w)
 have H : ((spec_ReadVersion.f k a0).bind fun bt206 => (spec_In.l0 k l1 bt206.2.2.2.2 0 bt206.1 bt206.2.1 bt206.2.2.1 bt206.2.2.2.1)) = some r := h
 clear h
 replace H := Option.bind_eq_some_iff.mp H
 obtain ⟨⟨t206, t207, t208, t209, t212⟩, A30, H⟩ := H
 replace H : (spec_In.l0 k l1 t212 0 t206 t207 t208 t209) = some r := H
 have A3 := Aside0.mk A30
 clear A30
 have H' := Aside0.mk H
 clear H
 go_enter Tryz.func8, Tryz.ntmps8
 go_wp2_with (first | ((with_reducible refine gate_callee (f := 27) rfl ?_); refine goesL_ (some 10) rfl rfl Tryz.func27 (by kernel_rfl) rfl #[.string a0] rfl zb1 ?_; (with_reducible refine (spec_ReadVersion.calls k a0 t206 t207 t208 t209 t212 _ A3.out).mono ?_); rintro e w4 ⟨v210, rfl, ho0, hb⟩; refine ⟨_, rfl, ?_⟩; have n0_ := Aside0.mk (Kd.R_lower ho0 (below_size zb0)); have n1_ := Aside0.mk (below_step zb0 hb); clear HB; have HO211 := n0_; have HB := n1_; clear n0_ n1_; (try clear hb); (try clear hb2); (try clear hk); (try clear hi); (try clear ho0)) | ((with_reducible refine gate_dst (N := 5) rfl ?_); refine box_event ?hg (N := 5) ?hd (cs := #[.int .i64 0, .int .i64 0, .int .i64 0, .slice none 0 0]) (t := 50) ?hr ?_; (case hd => rfl); (case hg => rfl); (case hr => first | (go_simp; done) | (go_simp; rfl)); intro gb213 hg w5 hbox hb; have n0_ := Aside0.mk (Kd.R_below (by (with_reducible repeat (first | apply Kd.R_alloc | apply Kd.R_drewN | apply Kd.R_drew)); exact HO211.out) hb); have n1_ := Aside0.mk (below_step zb0 hb); have n2_ := Aside0.mk (hbox); have n3_ := Aside0.mk ((by rw [hg]; exact (below_size zb0) : w.heap.size ≤ gb213)); have n4_ := Aside0.mk ((by rw [hg]; exact (below_size zb0) : w.heap.size ≤ gb213)); clear HO211; clear HB; have HO211 := n0_; have HB := n1_; have BK213 := n2_; have GW213 := n3_; have GE213 := n4_; clear n0_ n1_ n2_ n3_ n4_; clear hb hbox hg; have hcz6_0 : w5.cell? ⟨gb213, 0, none⟩ = some (.int .i64 0) := (blk_cell BK213.out 0).trans rfl; have hcz6_1 : w5.cell? ⟨gb213, 1, none⟩ = some (.int .i64 0) := (blk_cell BK213.out 1).trans rfl; have hcz6_2 : w5.cell? ⟨gb213, 2, none⟩ = some (.int .i64 0) := (blk_cell BK213.out 2).trans rfl; have hcz6_3 : w5.cell? ⟨gb213, 3, none⟩ = some (.slice none 0 0) := (blk_cell BK213.out 3).trans rfl; have hfz6_0 := blk_frozen BK213.out 0; have hfz6_1 := blk_frozen BK213.out 1; have hfz6_2 := blk_frozen BK213.out 2; have hfz6_3 := blk_frozen BK213.out 3; obtain ⟨Ao7, co7, eo7⟩ := Kd.R_slice HO211.out; subst eo7))
 go_loopg [7] k (fun kq v7 w' => ∃ (x7_1 : Int), v7 = .int .i64 x7_1 ∧ Aside0 (spec_In.l0 kq l1 t212 x7_1 t206 t207 t208 t209 = some r) ∧ Aside0 (kq ≤ k) ∧ Aside0 (Kd.R Kd.string 9 w' w.heap.size (fun _ => True) (.slice Ao7 t209.length co7) t209) ∧ Aside0 (w'.heap[gb213]? = some (.cells #[.int .i64 t206, .int .i64 t207, .int .i64 t208, (.slice Ao7 t209.length co7)] 50 (0, 0))) ∧ Aside0 (Below w.heap.size w w'))
 case atStart => exact ⟨(0), zb5, H', ⟨Nat.le_refl _⟩, ⟨by (with_reducible repeat (first | apply Kd.R_alloc | apply Kd.R_drewN | apply Kd.R_drew)); exact Kd.R_mono (Kd.R_far (p := ⟨gb213, 3, none⟩) (Kd.R_far (p := ⟨gb213, 2, none⟩) (Kd.R_far (p := ⟨gb213, 1, none⟩) (Kd.R_far (p := ⟨gb213, 0, none⟩) (Kd.R_types HO211.out BK213.out (by decide)) (fun _ hk => hk.2) (.int .i64 t206)) (fun _ hk => hk.2) (.int .i64 t207)) (fun _ hk => hk.2) (.int .i64 t208)) (fun _ hk => hk.2) (.slice Ao7 t209.length co7)) (fun _ hk => trivial)⟩, ⟨by (with_reducible repeat (first | refine bN_ ?_ _ | refine bD_ ?_ | refine bA_ ?_ _)); refine blk_put (cs := #[.int .i64 t206, .int .i64 t207, .int .i64 t208, .slice none 0 0]) ?_ 3 _ rfl; (with_reducible repeat (first | refine bN_ ?_ _ | refine bD_ ?_ | refine bA_ ?_ _)); refine blk_put (cs := #[.int .i64 t206, .int .i64 t207, .int .i64 0, .slice none 0 0]) ?_ 2 _ rfl; (with_reducible repeat (first | refine bN_ ?_ _ | refine bD_ ?_ | refine bA_ ?_ _)); refine blk_put (cs := #[.int .i64 t206, .int .i64 0, .int .i64 0, .slice none 0 0]) ?_ 1 _ rfl; (with_reducible repeat (first | refine bN_ ?_ _ | refine bD_ ?_ | refine bA_ ?_ _)); refine blk_put (cs := #[.int .i64 0, .int .i64 0, .int .i64 0, .slice none 0 0]) ?_ 0 _ rfl; (with_reducible repeat (first | refine bN_ ?_ _ | refine bD_ ?_ | refine bA_ ?_ _)); exact BK213.out⟩, ⟨by repeat (first | (with_reducible first | exact HB.out | apply below_alloc | apply pw_below_drewN | apply below_drew1 | refine below_set ?_ GE213.out) | exact HB.out)⟩⟩
 case round =>
  clear H'
  try clear c1
  try clear c2
  try clear p2
  try clear hcz6_0
  try clear hcz6_1
  try clear hcz6_2
  try clear hcz6_3
  try clear hfz6_0
  try clear hfz6_1
  try clear hfz6_2
  try clear hfz6_3
  obtain ⟨x7_1, rfl, HA, HK1, HO_214003, BK213, HB⟩ := hrel
  cases gk with
  | zero => exact absurd HA.out (by simp [spec_In.l0])
  | succ k1 =>
   have H := HA.out
   clear HA
   simp only [spec_In.l0] at H
   by_cases c8 : x7_1 < (l1.length : Int)
   ·rw [if_pos c8] at H
    have c8b0 : decide (x7_1 < (l1.length : Int)) = true := decide_eq_true c8
    clear c8
    by_cases c9 : t212 = true
    ·subst c9
     have H1 : ((spec_RangeOk.f k1 l1).bind fun t214 => (if t214 = true then (if 0 ≤ x7_1 then ((spec_l03Takes.f k1 ((rd_T55 l1 x7_1).f0) ((rd_T55 l1 x7_1).f1) t206 t207 t208 t209).bind fun t216 => (if t216 = true then (some true) else (spec_In.l0 k1 l1 true (wrap64 (x7_1 + 1)) t206 t207 t208 t209))) else (none)) else (spec_In.l0 k1 l1 true (wrap64 (x7_1 + 1)) t206 t207 t208 t209))) = some r := by rw [if_pos rfl] at H; exact H
     clear H
     have H := H1
     clear H1
     replace H := Option.bind_eq_some_iff.mp H
     obtain ⟨t214, A100, H⟩ := H
     replace H : (if t214 = true then (if 0 ≤ x7_1 then ((spec_l03Takes.f k1 ((rd_T55 l1 x7_1).f0) ((rd_T55 l1 x7_1).f1) t206 t207 t208 t209).bind fun t216 => (if t216 = true then (some true) else (spec_In.l0 k1 l1 true (wrap64 (x7_1 + 1)) t206 t207 t208 t209))) else (none)) else (spec_In.l0 k1 l1 true (wrap64 (x7_1 + 1)) t206 t207 t208 t209)) = some r := H
     have A10 := Aside0.mk A100
     clear A100
     by_cases c11 : t214 = true
     ·subst c11
      have H1 : (if 0 ≤ x7_1 then ((spec_l03Takes.f k1 ((rd_T55 l1 x7_1).f0) ((rd_T55 l1 x7_1).f1) t206 t207 t208 t209).bind fun t216 => (if t216 = true then (some true) else (spec_In.l0 k1 l1 true (wrap64 (x7_1 + 1)) t206 t207 t208 t209))) else (none)) = some r := by rw [if_pos rfl] at H; exact H
      clear H
      have H := H1
      clear H1
      by_cases c12 : 0 ≤ x7_1
      ·rw [if_pos c12] at H
       have c12b0 : decide (0 ≤ x7_1) = true := decide_eq_true c12
       clear c12
       replace H := Option.bind_eq_some_iff.mp H
       obtain ⟨t216, A130, H⟩ := H
       replace H : (if t216 = true then (some true) else (spec_In.l0 k1 l1 true (wrap64 (x7_1 + 1)) t206 t207 t208 t209)) = some r := H
       have A13 := Aside0.mk A130
       clear A130
       by_cases c14 : t216 = true
       ·subst c14
        have H1 : (some true) = some r := by rw [if_pos rfl] at H; exact H
        clear H
        have H := H1
        clear H1
        obtain rfl := Option.some.inj H
        try go_wp2
        have n0_ := Aside0.mk (Kd.R_drew HO_214003.out)
        have n1_ := Aside0.mk (blk_drew BK213.out)
        have n2_ := Aside0.mk (below_drew1 HB.out)
        clear HO_214003
        clear BK213
        clear HB
        have HO_214003 := n0_
        have BK213 := n1_
        have HB := n2_
        clear n0_ n1_ n2_
        have p215 : 0 ≤ (x7_1 : Int) := of_decide_eq_true zb4
        have q215 : x7_1 < (l1.length : Int) := of_decide_eq_true zb4
        obtain ⟨ad215, e215, hx215_0, hx215_1⟩ := at_T55 HR1.out x7_1 p215 q215
        have hw215_1 := hx215_1
        have hw215_0 := hx215_0
        cases e215
        replace hx215_0 := (HB.out.cell (World.block_lt_of_cell? w _ hx215_0)).trans hx215_0
        replace hx215_1 := (HB.out.cell (World.block_lt_of_cell? w _ hx215_1)).trans hx215_1
        replace p215 := eq_true p215
        replace q215 := eq_true q215
        refine start_ (n := 13) (S := fun w' => w'.cell? ⟨gb213, 0, none⟩ = some (.int .i64 t206) ∧ w'.cell? ⟨gb213, 1, none⟩ = some (.int .i64 t207) ∧ w'.cell? ⟨gb213, 2, none⟩ = some (.int .i64 t208) ∧ w'.cell? ⟨gb213, 3, none⟩ = some (.slice Ao7 t209.length co7) ∧ w'.cell? (ad215.add ((x7_1).toNat * 2)) = some (.string ((rd_T55 l1 x7_1).f0)) ∧ w'.cell? ⟨(ad215.add ((x7_1).toNat * 2)).block, (ad215.add ((x7_1).toNat * 2)).off + 1, none⟩ = some (.string ((rd_T55 l1 x7_1).f1))) (ds := []) #[false, false, false, false, false, false, false, false, false, false, false, false, false] (by kernel_rfl) rfl rfl ⟨(blk_cell BK213.out 0).trans rfl, (blk_cell BK213.out 1).trans rfl, (blk_cell BK213.out 2).trans rfl, (blk_cell BK213.out 3).trans rfl, ((HB.out.cell (World.block_lt_of_cell? w _ hw215_0)).trans hw215_0), ((HB.out.cell (World.block_lt_of_cell? w _ hw215_1)).trans hw215_1)⟩ (fun hHeld => ?_); refine with_tabW spec_In.tab5 spec_In.bits5 (fun HT_ HW_ => ?_)
        generalize wr.drew = w15 at HO_214003 BK213 HB hx215_0 hx215_1 hHeld ⊢
        refine pure_ (i := 0) (N := some 19) (v := ?_) (a' := ?_) #[true, false, false, false, false, false, false, false, false, false, false, false, false] rfl rfl (any_of HT_.out (by kernel_rfl)) (fun _ _ _ h => h) (Or.inl ⟨by rfl, ?_⟩) ?_ ?_
        rotate_left
        ·intro w'
         go_simp
         with_reducible rfl
        rotate_left
        ·simp only [Act.put, List.setIfInBounds_toArray, List.set_cons_zero, List.set_cons_succ, i64_w, i32_w]
         rfl
        refine pure_ (i := 1) (N := some 20) (v := ?_) (a' := ?_) #[true, true, false, false, false, false, false, false, false, false, false, false, false] rfl rfl (any_of HT_.out (by kernel_rfl)) (fun _ _ _ h => h) (Or.inl ⟨by rfl, ?_⟩) ?_ ?_
        rotate_left
        ·intro w'
         go_simp
         with_reducible rfl
        rotate_left
        ·simp only [Act.put, List.setIfInBounds_toArray, List.set_cons_zero, List.set_cons_succ, i64_w, i32_w]
         rfl
        refine pure_ (i := 2) (N := some 21) (v := ?_) (a' := ?_) #[true, true, true, false, false, false, false, false, false, false, false, false, false] rfl rfl (any_of HT_.out (by kernel_rfl)) (fun _ _ _ h => h) (Or.inl ⟨by rfl, ?_⟩) ?_ ?_
        rotate_left
        ·intro w'
         go_simp
         with_reducible rfl
        rotate_left
        ·simp only [Act.put, List.setIfInBounds_toArray, List.set_cons_zero, List.set_cons_succ, i64_w, i32_w]
         rfl
        refine one_ (i := 3) (N := some 22) #[true, true, true, true, false, false, false, false, false, false, false, false, false] rfl rfl (one_of HT_.out (by kernel_rfl)) (by decide) (fun K hK => ?_)
        refine goes_ Tryz.func28 (by kernel_rfl) rfl #[.slice (some ad215) l1.length c1] (by rfl) rfl rfl zb1 ?_
        with_reducible refine (spec_RangeOk.calls k1 _ _ l1 true _ ?side1 ?side2 A10.out).mono ?_
        (case side1 => repeat (first | exact (Kd.C_below HR1.out HB.out) | (with_reducible refine Kd.C_alloc ?_ _) | (with_reducible refine Kd.C_drewN ?_ _) | (with_reducible refine Kd.C_drew ?_)))
        (case side2 => exact HC1.out)
        rintro e w16 ⟨rfl, hb⟩
        refine ⟨_, rfl, ?_⟩
        have n0_ := Aside0.mk (Kd.R_below (by (with_reducible repeat (first | apply Kd.R_alloc | apply Kd.R_drewN | apply Kd.R_drew)); exact HO_214003.out) hb)
        have n1_ := Aside0.mk (blk_below (g := gb213) (o := .cells #[.int .i64 t206, .int .i64 t207, .int .i64 t208, .slice Ao7 t209.length co7] 50 (0, 0)) (by (with_reducible repeat (first | refine bN_ ?_ _ | refine bD_ ?_ | refine bA_ ?_ _)); exact BK213.out) hb)
        have n2_ := Aside0.mk (below_step (by repeat (first | (with_reducible first | exact HB.out | apply below_alloc | apply pw_below_drewN | apply below_drew1 | refine below_set ?_ GE213.out) | exact HB.out)) hb)
        clear HO_214003
        clear BK213
        clear HB
        have HO_214003 := n0_
        have BK213 := n1_
        have HB := n2_
        clear n0_ n1_ n2_
        (try clear hb)
        (try clear hb2)
        (try clear hk)
        (try clear hi)
        refine hK.out _ _ ⟨(blk_cell BK213.out 0).trans rfl, (blk_cell BK213.out 1).trans rfl, (blk_cell BK213.out 2).trans rfl, (blk_cell BK213.out 3).trans rfl, ((HB.out.cell (World.block_lt_of_cell? w _ hw215_0)).trans hw215_0), ((HB.out.cell (World.block_lt_of_cell? w _ hw215_1)).trans hw215_1)⟩ (fun hHeld => ?_)
        clear hK K
        refine norm_ (a' := ?_) ?_ ?_
        rotate_left
        ·show Act.put _ (some 22) _ = _
         simp only [Act.put, List.setIfInBounds_toArray, List.set_cons_zero, List.set_cons_succ, i64_w, i32_w]
         rfl
        refine pure_ (i := 4) (N := some 23) (v := ?_) (a' := ?_) #[true, true, true, true, true, false, false, false, false, false, false, false, false] rfl rfl (any_of HT_.out (by kernel_rfl)) (fun _ _ _ h => h) (Or.inl ⟨by rfl, ?_⟩) ?_ ?_
        rotate_left
        ·intro w'
         go_simp
         with_reducible rfl
        rotate_left
        ·simp only [Act.put, List.setIfInBounds_toArray, List.set_cons_zero, List.set_cons_succ, i64_w, i32_w]
         rfl
        refine pure_ (i := 5) (N := some 24) (v := ?_) (a' := ?_) #[true, true, true, true, true, true, false, false, false, false, false, false, false] rfl rfl (any_of HT_.out (by kernel_rfl)) (fun _ _ _ h => h) (Or.inl ⟨by rfl, ?_⟩) ?_ ?_
        rotate_left
        ·intro w'
         go_simp
         with_reducible rfl
        rotate_left
        ·simp only [Act.put, List.setIfInBounds_toArray, List.set_cons_zero, List.set_cons_succ, i64_w, i32_w]
         rfl
        refine pure_ (i := 6) (N := some 25) (v := ?_) (a' := ?_) #[true, true, true, true, true, true, true, false, false, false, false, false, false] rfl rfl (any_of HT_.out (by kernel_rfl)) (fun _ _ _ h => h) (Or.inl ⟨by rfl, ?_⟩) ?_ ?_
        rotate_left
        ·intro w'
         go_simp
         with_reducible rfl
        rotate_left
        ·simp only [Act.put, List.setIfInBounds_toArray, List.set_cons_zero, List.set_cons_succ, i64_w, i32_w]
         rfl
        refine pure_ (i := 7) (N := some 26) (v := ?_) (a' := ?_) #[true, true, true, true, true, true, true, true, false, false, false, false, false] rfl rfl (any_of HT_.out (by kernel_rfl)) (fun _ _ _ h => h) (Or.inl ⟨by rfl, ?_⟩) ?_ ?_
        rotate_left
        ·intro w'
         go_simp
         with_reducible rfl
        rotate_left
        ·simp only [Act.put, List.setIfInBounds_toArray, List.set_cons_zero, List.set_cons_succ, i64_w, i32_w]
         rfl
        refine pure_ (i := 8) (N := some 27) (v := ?_) (a' := ?_) #[true, true, true, true, true, true, true, true, true, false, false, false, false] rfl rfl (any_of HT_.out (by kernel_rfl)) (fun _ _ _ h => h) (Or.inl ⟨by rfl, ?_⟩) ?_ ?_
        rotate_left
        ·intro w'
         go_simp
         with_reducible rfl
        rotate_left
        ·simp only [Act.put, List.setIfInBounds_toArray, List.set_cons_zero, List.set_cons_succ, i64_w, i32_w]
         rfl
        refine take_ (i := 9) (N := some 28) (v := ?_) (a' := ?_) #[true, true, true, true, true, true, true, true, true, true, false, false, false] rfl rfl (take_ofW HT_.out HW_.out (by kernel_rfl)) (fun _ _ _ h => h) (Or.inl ⟨by rfl, ?_⟩) hHeld ?_ ?_
        rotate_left
        ·rintro w' ⟨s0, s1, s2, s3, s4, s5⟩
         go_simp
         with_reducible rfl
        rotate_left
        ·simp only [Act.put, List.setIfInBounds_toArray, List.set_cons_zero, List.set_cons_succ, i64_w, i32_w]
         rfl
        refine take_ (i := 10) (N := some 29) (v := ?_) (a' := ?_) #[true, true, true, true, true, true, true, true, true, true, true, false, false] rfl rfl (take_ofW HT_.out HW_.out (by kernel_rfl)) (fun _ _ _ h => h) (Or.inl ⟨by rfl, ?_⟩) hHeld ?_ ?_
        rotate_left
        ·rintro w' ⟨s0, s1, s2, s3, s4, s5⟩
         go_simp
         with_reducible rfl
        rotate_left
        ·simp only [Act.put, List.setIfInBounds_toArray, List.set_cons_zero, List.set_cons_succ, i64_w, i32_w]
         rfl
        refine one_ (i := 11) (N := some 30) #[true, true, true, true, true, true, true, true, true, true, true, true, false] rfl rfl (one_of HT_.out (by kernel_rfl)) (by decide) (fun K hK => ?_)
        refine goes_ Tryz.func29 (by kernel_rfl) rfl #[.agg #[.string ((rd_T55 l1 x7_1).f0), .string ((rd_T55 l1 x7_1).f1)], .agg #[.int .i64 t206, .int .i64 t207, .int .i64 t208, .slice Ao7 t209.length co7]] (by rfl) rfl rfl zb1 ?_
        with_reducible refine (spec_l03Takes.calls k1 ((rd_T55 l1 x7_1).f0) ((rd_T55 l1 x7_1).f1) t206 t207 t208 _ _ t209 true _ ?side1 ?side2 A13.out).mono ?_
        (case side1 => repeat (first | exact (Kd.R_reads' HO_214003.out).2.2 | (with_reducible refine Kd.C_alloc ?_ _) | (with_reducible refine Kd.C_drewN ?_ _) | (with_reducible refine Kd.C_drew ?_)))
        (case side2 => exact (Kd.R_reads' HO_214003.out).2.1)
        rintro e w17 ⟨rfl, hb⟩
        refine ⟨_, rfl, ?_⟩
        have n0_ := Aside0.mk (Kd.R_below (by (with_reducible repeat (first | apply Kd.R_alloc | apply Kd.R_drewN | apply Kd.R_drew)); exact HO_214003.out) hb)
        have n1_ := Aside0.mk (blk_below (g := gb213) (o := .cells #[.int .i64 t206, .int .i64 t207, .int .i64 t208, .slice Ao7 t209.length co7] 50 (0, 0)) (by (with_reducible repeat (first | refine bN_ ?_ _ | refine bD_ ?_ | refine bA_ ?_ _)); exact BK213.out) hb)
        have n2_ := Aside0.mk (below_step (by repeat (first | (with_reducible first | exact HB.out | apply below_alloc | apply pw_below_drewN | apply below_drew1 | refine below_set ?_ GE213.out) | exact HB.out)) hb)
        clear HO_214003
        clear BK213
        clear HB
        have HO_214003 := n0_
        have BK213 := n1_
        have HB := n2_
        clear n0_ n1_ n2_
        (try clear hb)
        (try clear hb2)
        (try clear hk)
        (try clear hi)
        refine hK.out _ _ ⟨(blk_cell BK213.out 0).trans rfl, (blk_cell BK213.out 1).trans rfl, (blk_cell BK213.out 2).trans rfl, (blk_cell BK213.out 3).trans rfl, ((HB.out.cell (World.block_lt_of_cell? w _ hw215_0)).trans hw215_0), ((HB.out.cell (World.block_lt_of_cell? w _ hw215_1)).trans hw215_1)⟩ (fun hHeld => ?_)
        clear hK K
        refine norm_ (a' := ?_) ?_ ?_
        rotate_left
        ·show Act.put _ (some 30) _ = _
         simp only [Act.put, List.setIfInBounds_toArray, List.set_cons_zero, List.set_cons_succ, i64_w, i32_w]
         rfl
        refine pure_ (i := 12) (N := some 31) (v := ?_) (a' := ?_) #[true, true, true, true, true, true, true, true, true, true, true, true, true] rfl rfl (any_of HT_.out (by kernel_rfl)) (fun _ _ _ h => h) (Or.inl ⟨by rfl, ?_⟩) ?_ ?_
        rotate_left
        ·intro w'
         go_simp
         with_reducible rfl
        rotate_left
        ·simp only [Act.put, List.setIfInBounds_toArray, List.set_cons_zero, List.set_cons_succ, i64_w, i32_w]
         rfl
        refine done_ (done_of HT_.out (by kernel_rfl)) ?_
        try go_wp2
        go_ret
        exact ⟨zb6, by repeat (first | (with_reducible first | exact HB.out | apply below_alloc | apply pw_below_drewN | apply below_drew1 | refine below_set ?_ GE213.out) | exact HB.out)⟩
       ·replace c14 := Bool.eq_false_iff.mpr c14
        subst c14
        have H1 : (spec_In.l0 k1 l1 true (wrap64 (x7_1 + 1)) t206 t207 t208 t209) = some r := by rw [if_neg (show ¬ (false = true) by decide)] at H; exact H
        clear H
        have H := H1
        clear H1
        have H' := Aside0.mk H
        clear H
        try go_wp2
        have n0_ := Aside0.mk (Kd.R_drew HO_214003.out)
        have n1_ := Aside0.mk (blk_drew BK213.out)
        have n2_ := Aside0.mk (below_drew1 HB.out)
        clear HO_214003
        clear BK213
        clear HB
        have HO_214003 := n0_
        have BK213 := n1_
        have HB := n2_
        clear n0_ n1_ n2_
        have p215 : 0 ≤ (x7_1 : Int) := of_decide_eq_true zb4
        have q215 : x7_1 < (l1.length : Int) := of_decide_eq_true zb4
        obtain ⟨ad215, e215, hx215_0, hx215_1⟩ := at_T55 HR1.out x7_1 p215 q215
        have hw215_1 := hx215_1
        have hw215_0 := hx215_0
        cases e215
        replace hx215_0 := (HB.out.cell (World.block_lt_of_cell? w _ hx215_0)).trans hx215_0
        replace hx215_1 := (HB.out.cell (World.block_lt_of_cell? w _ hx215_1)).trans hx215_1
        replace p215 := eq_true p215
        replace q215 := eq_true q215
        refine start_ (n := 13) (S := fun w' => w'.cell? ⟨gb213, 0, none⟩ = some (.int .i64 t206) ∧ w'.cell? ⟨gb213, 1, none⟩ = some (.int .i64 t207) ∧ w'.cell? ⟨gb213, 2, none⟩ = some (.int .i64 t208) ∧ w'.cell? ⟨gb213, 3, none⟩ = some (.slice Ao7 t209.length co7) ∧ w'.cell? (ad215.add ((x7_1).toNat * 2)) = some (.string ((rd_T55 l1 x7_1).f0)) ∧ w'.cell? ⟨(ad215.add ((x7_1).toNat * 2)).block, (ad215.add ((x7_1).toNat * 2)).off + 1, none⟩ = some (.string ((rd_T55 l1 x7_1).f1))) (ds := []) #[false, false, false, false, false, false, false, false, false, false, false, false, false] (by kernel_rfl) rfl rfl ⟨(blk_cell BK213.out 0).trans rfl, (blk_cell BK213.out 1).trans rfl, (blk_cell BK213.out 2).trans rfl, (blk_cell BK213.out 3).trans rfl, ((HB.out.cell (World.block_lt_of_cell? w _ hw215_0)).trans hw215_0), ((HB.out.cell (World.block_lt_of_cell? w _ hw215_1)).trans hw215_1)⟩ (fun hHeld => ?_); refine with_tabW spec_In.tab5 spec_In.bits5 (fun HT_ HW_ => ?_)
        generalize wr.drew = w18 at HO_214003 BK213 HB hx215_0 hx215_1 hHeld ⊢
        refine pure_ (i := 0) (N := some 19) (v := ?_) (a' := ?_) #[true, false, false, false, false, false, false, false, false, false, false, false, false] rfl rfl (any_of HT_.out (by kernel_rfl)) (fun _ _ _ h => h) (Or.inl ⟨by rfl, ?_⟩) ?_ ?_
        rotate_left
        ·intro w'
         go_simp
         with_reducible rfl
        rotate_left
        ·simp only [Act.put, List.setIfInBounds_toArray, List.set_cons_zero, List.set_cons_succ, i64_w, i32_w]
         rfl
        refine pure_ (i := 1) (N := some 20) (v := ?_) (a' := ?_) #[true, true, false, false, false, false, false, false, false, false, false, false, false] rfl rfl (any_of HT_.out (by kernel_rfl)) (fun _ _ _ h => h) (Or.inl ⟨by rfl, ?_⟩) ?_ ?_
        rotate_left
        ·intro w'
         go_simp
         with_reducible rfl
        rotate_left
        ·simp only [Act.put, List.setIfInBounds_toArray, List.set_cons_zero, List.set_cons_succ, i64_w, i32_w]
         rfl
        refine pure_ (i := 2) (N := some 21) (v := ?_) (a' := ?_) #[true, true, true, false, false, false, false, false, false, false, false, false, false] rfl rfl (any_of HT_.out (by kernel_rfl)) (fun _ _ _ h => h) (Or.inl ⟨by rfl, ?_⟩) ?_ ?_
        rotate_left
        ·intro w'
         go_simp
         with_reducible rfl
        rotate_left
        ·simp only [Act.put, List.setIfInBounds_toArray, List.set_cons_zero, List.set_cons_succ, i64_w, i32_w]
         rfl
        refine one_ (i := 3) (N := some 22) #[true, true, true, true, false, false, false, false, false, false, false, false, false] rfl rfl (one_of HT_.out (by kernel_rfl)) (by decide) (fun K hK => ?_)
        refine goes_ Tryz.func28 (by kernel_rfl) rfl #[.slice (some ad215) l1.length c1] (by rfl) rfl rfl zb1 ?_
        with_reducible refine (spec_RangeOk.calls k1 _ _ l1 true _ ?side1 ?side2 A10.out).mono ?_
        (case side1 => repeat (first | exact (Kd.C_below HR1.out HB.out) | (with_reducible refine Kd.C_alloc ?_ _) | (with_reducible refine Kd.C_drewN ?_ _) | (with_reducible refine Kd.C_drew ?_)))
        (case side2 => exact HC1.out)
        rintro e w19 ⟨rfl, hb⟩
        refine ⟨_, rfl, ?_⟩
        have n0_ := Aside0.mk (Kd.R_below (by (with_reducible repeat (first | apply Kd.R_alloc | apply Kd.R_drewN | apply Kd.R_drew)); exact HO_214003.out) hb)
        have n1_ := Aside0.mk (blk_below (g := gb213) (o := .cells #[.int .i64 t206, .int .i64 t207, .int .i64 t208, .slice Ao7 t209.length co7] 50 (0, 0)) (by (with_reducible repeat (first | refine bN_ ?_ _ | refine bD_ ?_ | refine bA_ ?_ _)); exact BK213.out) hb)
        have n2_ := Aside0.mk (below_step (by repeat (first | (with_reducible first | exact HB.out | apply below_alloc | apply pw_below_drewN | apply below_drew1 | refine below_set ?_ GE213.out) | exact HB.out)) hb)
        clear HO_214003
        clear BK213
        clear HB
        have HO_214003 := n0_
        have BK213 := n1_
        have HB := n2_
        clear n0_ n1_ n2_
        (try clear hb)
        (try clear hb2)
        (try clear hk)
        (try clear hi)
        refine hK.out _ _ ⟨(blk_cell BK213.out 0).trans rfl, (blk_cell BK213.out 1).trans rfl, (blk_cell BK213.out 2).trans rfl, (blk_cell BK213.out 3).trans rfl, ((HB.out.cell (World.block_lt_of_cell? w _ hw215_0)).trans hw215_0), ((HB.out.cell (World.block_lt_of_cell? w _ hw215_1)).trans hw215_1)⟩ (fun hHeld => ?_)
        clear hK K
        refine norm_ (a' := ?_) ?_ ?_
        rotate_left
        ·show Act.put _ (some 22) _ = _
         simp only [Act.put, List.setIfInBounds_toArray, List.set_cons_zero, List.set_cons_succ, i64_w, i32_w]
         rfl
        refine pure_ (i := 4) (N := some 23) (v := ?_) (a' := ?_) #[true, true, true, true, true, false, false, false, false, false, false, false, false] rfl rfl (any_of HT_.out (by kernel_rfl)) (fun _ _ _ h => h) (Or.inl ⟨by rfl, ?_⟩) ?_ ?_
        rotate_left
        ·intro w'
         go_simp
         with_reducible rfl
        rotate_left
        ·simp only [Act.put, List.setIfInBounds_toArray, List.set_cons_zero, List.set_cons_succ, i64_w, i32_w]
         rfl
        refine pure_ (i := 5) (N := some 24) (v := ?_) (a' := ?_) #[true, true, true, true, true, true, false, false, false, false, false, false, false] rfl rfl (any_of HT_.out (by kernel_rfl)) (fun _ _ _ h => h) (Or.inl ⟨by rfl, ?_⟩) ?_ ?_
        rotate_left
        ·intro w'
         go_simp
         with_reducible rfl
        rotate_left
        ·simp only [Act.put, List.setIfInBounds_toArray, List.set_cons_zero, List.set_cons_succ, i64_w, i32_w]
         rfl
        refine pure_ (i := 6) (N := some 25) (v := ?_) (a' := ?_) #[true, true, true, true, true, true, true, false, false, false, false, false, false] rfl rfl (any_of HT_.out (by kernel_rfl)) (fun _ _ _ h => h) (Or.inl ⟨by rfl, ?_⟩) ?_ ?_
        rotate_left
        ·intro w'
         go_simp
         with_reducible rfl
        rotate_left
        ·simp only [Act.put, List.setIfInBounds_toArray, List.set_cons_zero, List.set_cons_succ, i64_w, i32_w]
         rfl
        refine pure_ (i := 7) (N := some 26) (v := ?_) (a' := ?_) #[true, true, true, true, true, true, true, true, false, false, false, false, false] rfl rfl (any_of HT_.out (by kernel_rfl)) (fun _ _ _ h => h) (Or.inl ⟨by rfl, ?_⟩) ?_ ?_
        rotate_left
        ·intro w'
         go_simp
         with_reducible rfl
        rotate_left
        ·simp only [Act.put, List.setIfInBounds_toArray, List.set_cons_zero, List.set_cons_succ, i64_w, i32_w]
         rfl
        refine pure_ (i := 8) (N := some 27) (v := ?_) (a' := ?_) #[true, true, true, true, true, true, true, true, true, false, false, false, false] rfl rfl (any_of HT_.out (by kernel_rfl)) (fun _ _ _ h => h) (Or.inl ⟨by rfl, ?_⟩) ?_ ?_
        rotate_left
        ·intro w'
         go_simp
         with_reducible rfl
        rotate_left
        ·simp only [Act.put, List.setIfInBounds_toArray, List.set_cons_zero, List.set_cons_succ, i64_w, i32_w]
         rfl
        refine take_ (i := 9) (N := some 28) (v := ?_) (a' := ?_) #[true, true, true, true, true, true, true, true, true, true, false, false, false] rfl rfl (take_ofW HT_.out HW_.out (by kernel_rfl)) (fun _ _ _ h => h) (Or.inl ⟨by rfl, ?_⟩) hHeld ?_ ?_
        rotate_left
        ·rintro w' ⟨s0, s1, s2, s3, s4, s5⟩
         go_simp
         with_reducible rfl
        rotate_left
        ·simp only [Act.put, List.setIfInBounds_toArray, List.set_cons_zero, List.set_cons_succ, i64_w, i32_w]
         rfl
        refine take_ (i := 10) (N := some 29) (v := ?_) (a' := ?_) #[true, true, true, true, true, true, true, true, true, true, true, false, false] rfl rfl (take_ofW HT_.out HW_.out (by kernel_rfl)) (fun _ _ _ h => h) (Or.inl ⟨by rfl, ?_⟩) hHeld ?_ ?_
        rotate_left
        ·rintro w' ⟨s0, s1, s2, s3, s4, s5⟩
         go_simp
         with_reducible rfl
        rotate_left
        ·simp only [Act.put, List.setIfInBounds_toArray, List.set_cons_zero, List.set_cons_succ, i64_w, i32_w]
         rfl
        refine one_ (i := 11) (N := some 30) #[true, true, true, true, true, true, true, true, true, true, true, true, false] rfl rfl (one_of HT_.out (by kernel_rfl)) (by decide) (fun K hK => ?_)
        refine goes_ Tryz.func29 (by kernel_rfl) rfl #[.agg #[.string ((rd_T55 l1 x7_1).f0), .string ((rd_T55 l1 x7_1).f1)], .agg #[.int .i64 t206, .int .i64 t207, .int .i64 t208, .slice Ao7 t209.length co7]] (by rfl) rfl rfl zb1 ?_
        with_reducible refine (spec_l03Takes.calls k1 ((rd_T55 l1 x7_1).f0) ((rd_T55 l1 x7_1).f1) t206 t207 t208 _ _ t209 false _ ?side1 ?side2 A13.out).mono ?_
        (case side1 => repeat (first | exact (Kd.R_reads' HO_214003.out).2.2 | (with_reducible refine Kd.C_alloc ?_ _) | (with_reducible refine Kd.C_drewN ?_ _) | (with_reducible refine Kd.C_drew ?_)))
        (case side2 => exact (Kd.R_reads' HO_214003.out).2.1)
        rintro e w20 ⟨rfl, hb⟩
        refine ⟨_, rfl, ?_⟩
        have n0_ := Aside0.mk (Kd.R_below (by (with_reducible repeat (first | apply Kd.R_alloc | apply Kd.R_drewN | apply Kd.R_drew)); exact HO_214003.out) hb)
        have n1_ := Aside0.mk (blk_below (g := gb213) (o := .cells #[.int .i64 t206, .int .i64 t207, .int .i64 t208, .slice Ao7 t209.length co7] 50 (0, 0)) (by (with_reducible repeat (first | refine bN_ ?_ _ | refine bD_ ?_ | refine bA_ ?_ _)); exact BK213.out) hb)
        have n2_ := Aside0.mk (below_step (by repeat (first | (with_reducible first | exact HB.out | apply below_alloc | apply pw_below_drewN | apply below_drew1 | refine below_set ?_ GE213.out) | exact HB.out)) hb)
        clear HO_214003
        clear BK213
        clear HB
        have HO_214003 := n0_
        have BK213 := n1_
        have HB := n2_
        clear n0_ n1_ n2_
        (try clear hb)
        (try clear hb2)
        (try clear hk)
        (try clear hi)
        refine hK.out _ _ ⟨(blk_cell BK213.out 0).trans rfl, (blk_cell BK213.out 1).trans rfl, (blk_cell BK213.out 2).trans rfl, (blk_cell BK213.out 3).trans rfl, ((HB.out.cell (World.block_lt_of_cell? w _ hw215_0)).trans hw215_0), ((HB.out.cell (World.block_lt_of_cell? w _ hw215_1)).trans hw215_1)⟩ (fun hHeld => ?_)
        clear hK K
        refine norm_ (a' := ?_) ?_ ?_
        rotate_left
        ·show Act.put _ (some 30) _ = _
         simp only [Act.put, List.setIfInBounds_toArray, List.set_cons_zero, List.set_cons_succ, i64_w, i32_w]
         rfl
        refine pure_ (i := 12) (N := some 31) (v := ?_) (a' := ?_) #[true, true, true, true, true, true, true, true, true, true, true, true, true] rfl rfl (any_of HT_.out (by kernel_rfl)) (fun _ _ _ h => h) (Or.inl ⟨by rfl, ?_⟩) ?_ ?_
        rotate_left
        ·intro w'
         go_simp
         with_reducible rfl
        rotate_left
        ·simp only [Act.put, List.setIfInBounds_toArray, List.set_cons_zero, List.set_cons_succ, i64_w, i32_w]
         rfl
        refine done_ (done_of HT_.out (by kernel_rfl)) ?_
        try go_wp2
        go_roundg k1
        case measure => have := HK1.out; omega
        case rel => exact ⟨(wrap64 (x7_1 + 1)), zb5, H', ⟨by have := HK1.out; omega⟩, ⟨by (with_reducible repeat (first | apply Kd.R_alloc | apply Kd.R_drewN | apply Kd.R_drew)); exact HO_214003.out⟩, ⟨by (with_reducible repeat (first | refine bN_ ?_ _ | refine bD_ ?_ | refine bA_ ?_ _)); exact BK213.out⟩, ⟨by repeat (first | (with_reducible first | exact HB.out | apply below_alloc | apply pw_below_drewN | apply below_drew1 | refine below_set ?_ GE213.out) | exact HB.out)⟩⟩
      ·rw [if_neg c12] at H
       exact absurd H (by simp)
     ·replace c11 := Bool.eq_false_iff.mpr c11
      subst c11
      have H1 : (spec_In.l0 k1 l1 true (wrap64 (x7_1 + 1)) t206 t207 t208 t209) = some r := by rw [if_neg (show ¬ (false = true) by decide)] at H; exact H
      clear H
      have H := H1
      clear H1
      have H' := Aside0.mk H
      clear H
      try go_wp2
      have n0_ := Aside0.mk (Kd.R_drew HO_214003.out)
      have n1_ := Aside0.mk (blk_drew BK213.out)
      have n2_ := Aside0.mk (below_drew1 HB.out)
      clear HO_214003
      clear BK213
      clear HB
      have HO_214003 := n0_
      have BK213 := n1_
      have HB := n2_
      clear n0_ n1_ n2_
      refine start_ (n := 13) (S := fun w' => True) (ds := []) #[false, false, false, false, false, false, false, false, false, false, false, false, false] (by kernel_rfl) rfl rfl trivial (fun hHeld => ?_); refine with_tabW spec_In.tab5 spec_In.bits5 (fun HT_ HW_ => ?_)
      generalize wr.drew = w21 at HO_214003 BK213 HB hHeld ⊢
      refine pure_ (i := 0) (N := some 19) (v := ?_) (a' := ?_) #[true, false, false, false, false, false, false, false, false, false, false, false, false] rfl rfl (any_of HT_.out (by kernel_rfl)) (fun _ _ _ h => h) (Or.inl ⟨by rfl, ?_⟩) ?_ ?_
      rotate_left
      ·intro w'
       go_simp
       with_reducible rfl
      rotate_left
      ·simp only [Act.put, List.setIfInBounds_toArray, List.set_cons_zero, List.set_cons_succ, i64_w, i32_w]
       rfl
      refine pure_ (i := 1) (N := some 20) (v := ?_) (a' := ?_) #[true, true, false, false, false, false, false, false, false, false, false, false, false] rfl rfl (any_of HT_.out (by kernel_rfl)) (fun _ _ _ h => h) (Or.inl ⟨by rfl, ?_⟩) ?_ ?_
      rotate_left
      ·intro w'
       go_simp
       with_reducible rfl
      rotate_left
      ·simp only [Act.put, List.setIfInBounds_toArray, List.set_cons_zero, List.set_cons_succ, i64_w, i32_w]
       rfl
      refine pure_ (i := 2) (N := some 21) (v := ?_) (a' := ?_) #[true, true, true, false, false, false, false, false, false, false, false, false, false] rfl rfl (any_of HT_.out (by kernel_rfl)) (fun _ _ _ h => h) (Or.inl ⟨by rfl, ?_⟩) ?_ ?_
      rotate_left
      ·intro w'
       go_simp
       with_reducible rfl
      rotate_left
      ·simp only [Act.put, List.setIfInBounds_toArray, List.set_cons_zero, List.set_cons_succ, i64_w, i32_w]
       rfl
      refine one_ (i := 3) (N := some 22) #[true, true, true, true, false, false, false, false, false, false, false, false, false] rfl rfl (one_of HT_.out (by kernel_rfl)) (by decide) (fun K hK => ?_)
      refine goes_ Tryz.func28 (by kernel_rfl) rfl #[.slice A1 l1.length c1] (by rfl) rfl rfl zb1 ?_
      with_reducible refine (spec_RangeOk.calls k1 _ _ l1 false _ ?side1 ?side2 A10.out).mono ?_
      (case side1 => repeat (first | exact (Kd.C_below HR1.out HB.out) | (with_reducible refine Kd.C_alloc ?_ _) | (with_reducible refine Kd.C_drewN ?_ _) | (with_reducible refine Kd.C_drew ?_)))
      (case side2 => exact HC1.out)
      rintro e w22 ⟨rfl, hb⟩
      refine ⟨_, rfl, ?_⟩
      have n0_ := Aside0.mk (Kd.R_below (by (with_reducible repeat (first | apply Kd.R_alloc | apply Kd.R_drewN | apply Kd.R_drew)); exact HO_214003.out) hb)
      have n1_ := Aside0.mk (blk_below (g := gb213) (o := .cells #[.int .i64 t206, .int .i64 t207, .int .i64 t208, .slice Ao7 t209.length co7] 50 (0, 0)) (by (with_reducible repeat (first | refine bN_ ?_ _ | refine bD_ ?_ | refine bA_ ?_ _)); exact BK213.out) hb)
      have n2_ := Aside0.mk (below_step (by repeat (first | (with_reducible first | exact HB.out | apply below_alloc | apply pw_below_drewN | apply below_drew1 | refine below_set ?_ GE213.out) | exact HB.out)) hb)
      clear HO_214003
      clear BK213
      clear HB
      have HO_214003 := n0_
      have BK213 := n1_
      have HB := n2_
      clear n0_ n1_ n2_
      (try clear hb)
      (try clear hb2)
      (try clear hk)
      (try clear hi)
      refine hK.out _ _ trivial (fun hHeld => ?_)
      clear hK K
      refine norm_ (a' := ?_) ?_ ?_
      rotate_left
      ·show Act.put _ (some 22) _ = _
       simp only [Act.put, List.setIfInBounds_toArray, List.set_cons_zero, List.set_cons_succ, i64_w, i32_w]
       rfl
      refine pure_ (i := 4) (N := some 23) (v := ?_) (a' := ?_) #[true, true, true, true, true, false, false, false, false, false, false, false, false] rfl rfl (any_of HT_.out (by kernel_rfl)) (fun _ _ _ h => h) (Or.inl ⟨by rfl, ?_⟩) ?_ ?_
      rotate_left
      ·intro w'
       go_simp
       with_reducible rfl
      rotate_left
      ·simp only [Act.put, List.setIfInBounds_toArray, List.set_cons_zero, List.set_cons_succ, i64_w, i32_w]
       rfl
      refine pure_ (i := 5) (N := some 24) (v := ?_) (a' := ?_) #[true, true, true, true, true, true, false, false, false, false, false, false, false] rfl rfl (any_of HT_.out (by kernel_rfl)) (fun _ _ _ h => h) (Or.inl ⟨by rfl, ?_⟩) ?_ ?_
      rotate_left
      ·intro w'
       go_simp
       with_reducible rfl
      rotate_left
      ·simp only [Act.put, List.setIfInBounds_toArray, List.set_cons_zero, List.set_cons_succ, i64_w, i32_w]
       rfl
      refine pure_ (i := 6) (N := some 25) (v := undef) (a' := ?_) #[true, true, true, true, true, true, true, false, false, false, false, false, false] rfl rfl (any_of HT_.out (by kernel_rfl)) (fun _ _ _ h => h) (Or.inr ⟨by rfl, rfl⟩) ?_ ?_
      rotate_left
      ·simp only [Act.put, List.setIfInBounds_toArray, List.set_cons_zero, List.set_cons_succ, i64_w, i32_w]
       rfl
      refine pure_ (i := 7) (N := some 26) (v := undef) (a' := ?_) #[true, true, true, true, true, true, true, true, false, false, false, false, false] rfl rfl (any_of HT_.out (by kernel_rfl)) (fun _ _ _ h => h) (Or.inr ⟨by rfl, rfl⟩) ?_ ?_
      rotate_left
      ·simp only [Act.put, List.setIfInBounds_toArray, List.set_cons_zero, List.set_cons_succ, i64_w, i32_w]
       rfl
      refine pure_ (i := 8) (N := some 27) (v := undef) (a' := ?_) #[true, true, true, true, true, true, true, true, true, false, false, false, false] rfl rfl (any_of HT_.out (by kernel_rfl)) (fun _ _ _ h => h) (Or.inr ⟨by rfl, rfl⟩) ?_ ?_
      rotate_left
      ·simp only [Act.put, List.setIfInBounds_toArray, List.set_cons_zero, List.set_cons_succ, i64_w, i32_w]
       rfl
      refine pure_ (i := 9) (N := some 28) (v := undef) (a' := ?_) #[true, true, true, true, true, true, true, true, true, true, false, false, false] rfl rfl (any_of HT_.out (by kernel_rfl)) (fun _ _ _ h => h) (Or.inr ⟨by rfl, rfl⟩) ?_ ?_
      rotate_left
      ·simp only [Act.put, List.setIfInBounds_toArray, List.set_cons_zero, List.set_cons_succ, i64_w, i32_w]
       rfl
      refine pure_ (i := 10) (N := some 29) (v := undef) (a' := ?_) #[true, true, true, true, true, true, true, true, true, true, true, false, false] rfl rfl (any_of HT_.out (by kernel_rfl)) (fun _ _ _ h => h) (Or.inr ⟨by rfl, rfl⟩) ?_ ?_
      rotate_left
      ·simp only [Act.put, List.setIfInBounds_toArray, List.set_cons_zero, List.set_cons_succ, i64_w, i32_w]
       rfl
      refine pure_ (i := 11) (N := some 30) (v := undef) (a' := ?_) #[true, true, true, true, true, true, true, true, true, true, true, true, false] rfl rfl (any_of HT_.out (by kernel_rfl)) (fun _ _ _ h => h) (Or.inr ⟨by rfl, rfl⟩) ?_ ?_
      rotate_left
      ·simp only [Act.put, List.setIfInBounds_toArray, List.set_cons_zero, List.set_cons_succ, i64_w, i32_w]
       rfl
      refine pure_ (i := 12) (N := some 31) (v := ?_) (a' := ?_) #[true, true, true, true, true, true, true, true, true, true, true, true, true] rfl rfl (any_of HT_.out (by kernel_rfl)) (fun _ _ _ h => h) (Or.inl ⟨by rfl, ?_⟩) ?_ ?_
      rotate_left
      ·intro w'
       go_simp
       with_reducible rfl
      rotate_left
      ·simp only [Act.put, List.setIfInBounds_toArray, List.set_cons_zero, List.set_cons_succ, i64_w, i32_w]
       rfl
      refine done_ (done_of HT_.out (by kernel_rfl)) ?_
      try go_wp2
      go_roundg k1
      case measure => have := HK1.out; omega
      case rel => exact ⟨(wrap64 (x7_1 + 1)), zb5, H', ⟨by have := HK1.out; omega⟩, ⟨by (with_reducible repeat (first | apply Kd.R_alloc | apply Kd.R_drewN | apply Kd.R_drew)); exact HO_214003.out⟩, ⟨by (with_reducible repeat (first | refine bN_ ?_ _ | refine bD_ ?_ | refine bA_ ?_ _)); exact BK213.out⟩, ⟨by repeat (first | (with_reducible first | exact HB.out | apply below_alloc | apply pw_below_drewN | apply below_drew1 | refine below_set ?_ GE213.out) | exact HB.out)⟩⟩
    ·replace c9 := Bool.eq_false_iff.mpr c9
     subst c9
     have H1 : (spec_In.l0 k1 l1 false (wrap64 (x7_1 + 1)) t206 t207 t208 t209) = some r := by rw [if_neg (show ¬ (false = true) by decide)] at H; exact H
     clear H
     have H := H1
     clear H1
     have H' := Aside0.mk H
     clear H
     try go_wp2
     have n0_ := Aside0.mk (Kd.R_drew HO_214003.out)
     have n1_ := Aside0.mk (blk_drew BK213.out)
     have n2_ := Aside0.mk (below_drew1 HB.out)
     clear HO_214003
     clear BK213
     clear HB
     have HO_214003 := n0_
     have BK213 := n1_
     have HB := n2_
     clear n0_ n1_ n2_
     refine start_ (n := 13) (S := fun w' => True) (ds := []) #[false, false, false, false, false, false, false, false, false, false, false, false, false] (by kernel_rfl) rfl rfl trivial (fun hHeld => ?_); refine with_tabW spec_In.tab5 spec_In.bits5 (fun HT_ HW_ => ?_)
     generalize wr.drew = w23 at HO_214003 BK213 HB hHeld ⊢
     refine pure_ (i := 0) (N := some 19) (v := ?_) (a' := ?_) #[true, false, false, false, false, false, false, false, false, false, false, false, false] rfl rfl (any_of HT_.out (by kernel_rfl)) (fun _ _ _ h => h) (Or.inl ⟨by rfl, ?_⟩) ?_ ?_
     rotate_left
     ·intro w'
      go_simp
      with_reducible rfl
     rotate_left
     ·simp only [Act.put, List.setIfInBounds_toArray, List.set_cons_zero, List.set_cons_succ, i64_w, i32_w]
      rfl
     refine pure_ (i := 1) (N := some 20) (v := ?_) (a' := ?_) #[true, true, false, false, false, false, false, false, false, false, false, false, false] rfl rfl (any_of HT_.out (by kernel_rfl)) (fun _ _ _ h => h) (Or.inl ⟨by rfl, ?_⟩) ?_ ?_
     rotate_left
     ·intro w'
      go_simp
      with_reducible rfl
     rotate_left
     ·simp only [Act.put, List.setIfInBounds_toArray, List.set_cons_zero, List.set_cons_succ, i64_w, i32_w]
      rfl
     refine pure_ (i := 2) (N := some 21) (v := undef) (a' := ?_) #[true, true, true, false, false, false, false, false, false, false, false, false, false] rfl rfl (any_of HT_.out (by kernel_rfl)) (fun _ _ _ h => h) (Or.inr ⟨by rfl, rfl⟩) ?_ ?_
     rotate_left
     ·simp only [Act.put, List.setIfInBounds_toArray, List.set_cons_zero, List.set_cons_succ, i64_w, i32_w]
      rfl
     refine pure_ (i := 3) (N := some 22) (v := undef) (a' := ?_) #[true, true, true, true, false, false, false, false, false, false, false, false, false] rfl rfl (any_of HT_.out (by kernel_rfl)) (fun _ _ _ h => h) (Or.inr ⟨by rfl, rfl⟩) ?_ ?_
     rotate_left
     ·simp only [Act.put, List.setIfInBounds_toArray, List.set_cons_zero, List.set_cons_succ, i64_w, i32_w]
      rfl
     refine pure_ (i := 4) (N := some 23) (v := ?_) (a' := ?_) #[true, true, true, true, true, false, false, false, false, false, false, false, false] rfl rfl (any_of HT_.out (by kernel_rfl)) (fun _ _ _ h => h) (Or.inl ⟨by rfl, ?_⟩) ?_ ?_
     rotate_left
     ·intro w'
      go_simp
      with_reducible rfl
     rotate_left
     ·simp only [Act.put, List.setIfInBounds_toArray, List.set_cons_zero, List.set_cons_succ, i64_w, i32_w]
      rfl
     refine pure_ (i := 5) (N := some 24) (v := ?_) (a' := ?_) #[true, true, true, true, true, true, false, false, false, false, false, false, false] rfl rfl (any_of HT_.out (by kernel_rfl)) (fun _ _ _ h => h) (Or.inl ⟨by rfl, ?_⟩) ?_ ?_
     rotate_left
     ·intro w'
      go_simp
      with_reducible rfl
     rotate_left
     ·simp only [Act.put, List.setIfInBounds_toArray, List.set_cons_zero, List.set_cons_succ, i64_w, i32_w]
      rfl
     refine pure_ (i := 6) (N := some 25) (v := undef) (a' := ?_) #[true, true, true, true, true, true, true, false, false, false, false, false, false] rfl rfl (any_of HT_.out (by kernel_rfl)) (fun _ _ _ h => h) (Or.inr ⟨by rfl, rfl⟩) ?_ ?_
     rotate_left
     ·simp only [Act.put, List.setIfInBounds_toArray, List.set_cons_zero, List.set_cons_succ, i64_w, i32_w]
      rfl
     refine pure_ (i := 7) (N := some 26) (v := undef) (a' := ?_) #[true, true, true, true, true, true, true, true, false, false, false, false, false] rfl rfl (any_of HT_.out (by kernel_rfl)) (fun _ _ _ h => h) (Or.inr ⟨by rfl, rfl⟩) ?_ ?_
     rotate_left
     ·simp only [Act.put, List.setIfInBounds_toArray, List.set_cons_zero, List.set_cons_succ, i64_w, i32_w]
      rfl
     refine pure_ (i := 8) (N := some 27) (v := undef) (a' := ?_) #[true, true, true, true, true, true, true, true, true, false, false, false, false] rfl rfl (any_of HT_.out (by kernel_rfl)) (fun _ _ _ h => h) (Or.inr ⟨by rfl, rfl⟩) ?_ ?_
     rotate_left
     ·simp only [Act.put, List.setIfInBounds_toArray, List.set_cons_zero, List.set_cons_succ, i64_w, i32_w]
      rfl
     refine pure_ (i := 9) (N := some 28) (v := undef) (a' := ?_) #[true, true, true, true, true, true, true, true, true, true, false, false, false] rfl rfl (any_of HT_.out (by kernel_rfl)) (fun _ _ _ h => h) (Or.inr ⟨by rfl, rfl⟩) ?_ ?_
     rotate_left
     ·simp only [Act.put, List.setIfInBounds_toArray, List.set_cons_zero, List.set_cons_succ, i64_w, i32_w]
      rfl
     refine pure_ (i := 10) (N := some 29) (v := undef) (a' := ?_) #[true, true, true, true, true, true, true, true, true, true, true, false, false] rfl rfl (any_of HT_.out (by kernel_rfl)) (fun _ _ _ h => h) (Or.inr ⟨by rfl, rfl⟩) ?_ ?_
     rotate_left
     ·simp only [Act.put, List.setIfInBounds_toArray, List.set_cons_zero, List.set_cons_succ, i64_w, i32_w]
      rfl
     refine pure_ (i := 11) (N := some 30) (v := undef) (a' := ?_) #[true, true, true, true, true, true, true, true, true, true, true, true, false] rfl rfl (any_of HT_.out (by kernel_rfl)) (fun _ _ _ h => h) (Or.inr ⟨by rfl, rfl⟩) ?_ ?_
     rotate_left
     ·simp only [Act.put, List.setIfInBounds_toArray, List.set_cons_zero, List.set_cons_succ, i64_w, i32_w]
      rfl
     refine pure_ (i := 12) (N := some 31) (v := ?_) (a' := ?_) #[true, true, true, true, true, true, true, true, true, true, true, true, true] rfl rfl (any_of HT_.out (by kernel_rfl)) (fun _ _ _ h => h) (Or.inl ⟨by rfl, ?_⟩) ?_ ?_
     rotate_left
     ·intro w'
      go_simp
      with_reducible rfl
     rotate_left
     ·simp only [Act.put, List.setIfInBounds_toArray, List.set_cons_zero, List.set_cons_succ, i64_w, i32_w]
      rfl
     refine done_ (done_of HT_.out (by kernel_rfl)) ?_
     try go_wp2
     go_roundg k1
     case measure => have := HK1.out; omega
     case rel => exact ⟨(wrap64 (x7_1 + 1)), zb5, H', ⟨by have := HK1.out; omega⟩, ⟨by (with_reducible repeat (first | apply Kd.R_alloc | apply Kd.R_drewN | apply Kd.R_drew)); exact HO_214003.out⟩, ⟨by (with_reducible repeat (first | refine bN_ ?_ _ | refine bD_ ?_ | refine bA_ ?_ _)); exact BK213.out⟩, ⟨by repeat (first | (with_reducible first | exact HB.out | apply below_alloc | apply pw_below_drewN | apply below_drew1 | refine below_set ?_ GE213.out) | exact HB.out)⟩⟩
   ·rw [if_neg c8] at H
    have c8b0 : decide (x7_1 < (l1.length : Int)) = false := decide_eq_false c8
    clear c8
    obtain rfl := Option.some.inj H
    go_wp2
    go_ret
    exact ⟨zb6, by repeat (first | (with_reducible first | exact HB.out | apply below_alloc | apply pw_below_drewN | apply below_drew1 | refine below_set ?_ GE213.out) | exact HB.out)⟩

end Go.Proofs.YtbepbfibanmhoaaGreatDoor.G
end

section
-- PRINTED by print.py (a twelfth state) out of the translation. Not trusted: Lean checks it.
namespace Go.Proofs.YtbepbfibanmhoaaGreatDoor.G
open Go.RowKit Go.Proofs.YtbepbfibanmhoaaGreatDoorW.PrintWords Go.Proofs.YtbepbfibanmhoaaGreatDoorW.PrintLast Go.Proofs.YtbepbfibanmhoaaGreatDoorW.PrintMore
attribute [local go_sem] max2_int min2_int max_two min_two max_three min_three max_four min_four   -- for this text's walks alone
attribute [local go_sem high] Go.Proofs.YtbepbfibanmhoaaGreatDoor.G.str_gtr Go.Proofs.YtbepbfibanmhoaaGreatDoor.G.str_leq Go.Proofs.YtbepbfibanmhoaaGreatDoor.G.str_geq
set_option linter.unusedVariables false
set_option linter.unusedSimpArgs false

/-! ### laws_toBound: function 30 -/
def laws_toBound.f (a0_0 : ByteArray) (a0_1 : ByteArray) : Option (ByteArray × ByteArray) := some (a0_0, a0_1)
set_option maxHeartbeats 8000000 in
set_option maxRecDepth 100000 in
theorem laws_toBound.calls (a0_0 : ByteArray) (a0_1 : ByteArray) (r1 : ByteArray) (r2 : ByteArray) (w : World) (h : laws_toBound.f a0_0 a0_1 = some (r1, r2)) :
  Calls Tryz.prog 30 #[.agg #[.string a0_0, .string a0_1]] w fun e w' => e = .returned (.agg #[.string r1, .string r2]) ∧ Below w.heap.size w w' := by
 have hu48 := Tryz.underlying48
 have hu55 := Tryz.underlying55
 have HB := Aside0.mk (Below.refl w.heap.size w)
 have H : (some (a0_0, a0_1)) = some (r1, r2) := h
 clear h
 simp only [Option.some.injEq, Prod.mk.injEq] at H
 obtain ⟨rfl, rfl⟩ := H
 go_enter Tryz.func30, Tryz.ntmps30
 go_wp2_with (first | ((with_reducible refine gate_dst (N := 1) rfl ?_); refine box_event ?hg (N := 1) ?hd (cs := #[.string a0_0, .string a0_1]) (t := 48) ?hr ?_; (case hd => rfl); (case hg => rfl); (case hr => first | (go_simp; done) | (go_simp; rfl)); intro gb217 hg w2 hbox hb; have n0_ := Aside0.mk (below_step zb0 hb); have n1_ := Aside0.mk (hbox); have n2_ := Aside0.mk ((by rw [hg]; exact (below_size zb0) : w.heap.size ≤ gb217)); have n3_ := Aside0.mk ((by rw [hg]; exact (below_size zb0) : w.heap.size ≤ gb217)); clear HB; have HB := n0_; have BK217 := n1_; have GW217 := n2_; have GE217 := n3_; clear n0_ n1_ n2_ n3_; clear hb hbox hg) | ((with_reducible refine gate_dst (N := 2) rfl ?_); refine box_event ?hg (N := 2) ?hd (cs := #[.string (⟨#[]⟩ : ByteArray), .string (⟨#[]⟩ : ByteArray)]) (t := 55) ?hr ?_; (case hd => rfl); (case hg => rfl); (case hr => first | (go_simp; done) | (go_simp; rfl)); intro gb218 hg w3 hbox hb; have n0_ := Aside0.mk (blk_below (g := gb217) (o := .cells #[.string a0_0, .string a0_1] 48 (0, 0)) (by (with_reducible repeat (first | refine bN_ ?_ _ | refine bD_ ?_ | refine bA_ ?_ _)); exact BK217.out) hb); have n1_ := Aside0.mk (below_step (by repeat (first | (with_reducible first | exact HB.out | apply below_alloc | apply pw_below_drewN | apply below_drew1 | refine below_set ?_ GE217.out) | exact HB.out)) hb); have n2_ := Aside0.mk (hbox); have n3_ := Aside0.mk ((by rw [hg]; exact (below_size (by repeat (first | (with_reducible first | exact HB.out | apply below_alloc | apply pw_below_drewN | apply below_drew1 | refine below_set ?_ GE217.out) | exact HB.out))) : w.heap.size ≤ gb218)); have n4_ := Aside0.mk ((by rw [hg]; exact (below_size (by repeat (first | (with_reducible first | exact HB.out | apply below_alloc | apply pw_below_drewN | apply below_drew1 | refine below_set ?_ GE217.out) | exact HB.out))) : w.heap.size ≤ gb218)); have n5_ := Aside0.mk ((by rw [hg]; exact Nat.ne_of_lt (blk_lt (g := gb217) (o := .cells #[.string a0_0, .string a0_1] 48 (0, 0)) (by (with_reducible repeat (first | refine bN_ ?_ _ | refine bD_ ?_ | refine bA_ ?_ _)); exact BK217.out)) : gb217 ≠ gb218)); have n6_ := Aside0.mk ((by rw [hg]; exact Nat.ne_of_gt (blk_lt (g := gb217) (o := .cells #[.string a0_0, .string a0_1] 48 (0, 0)) (by (with_reducible repeat (first | refine bN_ ?_ _ | refine bD_ ?_ | refine bA_ ?_ _)); exact BK217.out)) : gb218 ≠ gb217)); clear BK217; clear HB; have BK217 := n0_; have HB := n1_; have BK218 := n2_; have GW218 := n3_; have GE218 := n4_; have NB217_218 := n5_; have NB218_217 := n6_; clear n0_ n1_ n2_ n3_ n4_ n5_ n6_; clear hb hbox hg) | ((with_reducible refine gate_dst (N := 3) rfl ?_); refine box_event ?hg (N := 3) ?hd (cs := #[.string (⟨#[]⟩ : ByteArray), .string (⟨#[]⟩ : ByteArray)]) (t := 55) ?hr ?_; (case hd => rfl); (case hg => rfl); (case hr => first | (go_simp; done) | (go_simp; rfl)); intro gb219 hg w4 hbox hb; have n0_ := Aside0.mk (blk_below (g := gb217) (o := .cells #[.string a0_0, .string a0_1] 48 (0, 0)) (by (with_reducible repeat (first | refine bN_ ?_ _ | refine bD_ ?_ | refine bA_ ?_ _)); exact BK217.out) hb); have n1_ := Aside0.mk (blk_below (g := gb218) (o := .cells #[.string (⟨#[]⟩ : ByteArray), .string (⟨#[]⟩ : ByteArray)] 55 (0, 0)) (by (with_reducible repeat (first | refine bN_ ?_ _ | refine bD_ ?_ | refine bA_ ?_ _)); exact BK218.out) hb); have n2_ := Aside0.mk (below_step (by repeat (first | (with_reducible first | exact HB.out | apply below_alloc | apply pw_below_drewN | apply below_drew1 | refine below_set ?_ GE217.out | refine below_set ?_ GE218.out) | exact HB.out)) hb); have n3_ := Aside0.mk (hbox); have n4_ := Aside0.mk ((by rw [hg]; exact (below_size (by repeat (first | (with_reducible first | exact HB.out | apply below_alloc | apply pw_below_drewN | apply below_drew1 | refine below_set ?_ GE217.out | refine below_set ?_ GE218.out) | exact HB.out))) : w.heap.size ≤ gb219)); have n5_ := Aside0.mk ((by rw [hg]; exact (below_size (by repeat (first | (with_reducible first | exact HB.out | apply below_alloc | apply pw_below_drewN | apply below_drew1 | refine below_set ?_ GE217.out | refine below_set ?_ GE218.out) | exact HB.out))) : w.heap.size ≤ gb219)); have n6_ := Aside0.mk ((by rw [hg]; exact Nat.ne_of_lt (blk_lt (g := gb217) (o := .cells #[.string a0_0, .string a0_1] 48 (0, 0)) (by (with_reducible repeat (first | refine bN_ ?_ _ | refine bD_ ?_ | refine bA_ ?_ _)); exact BK217.out)) : gb217 ≠ gb219)); have n7_ := Aside0.mk ((by rw [hg]; exact Nat.ne_of_gt (blk_lt (g := gb217) (o := .cells #[.string a0_0, .string a0_1] 48 (0, 0)) (by (with_reducible repeat (first | refine bN_ ?_ _ | refine bD_ ?_ | refine bA_ ?_ _)); exact BK217.out)) : gb219 ≠ gb217)); have n8_ := Aside0.mk ((by rw [hg]; exact Nat.ne_of_lt (blk_lt (g := gb218) (o := .cells #[.string (⟨#[]⟩ : ByteArray), .string (⟨#[]⟩ : ByteArray)] 55 (0, 0)) (by (with_reducible repeat (first | refine bN_ ?_ _ | refine bD_ ?_ | refine bA_ ?_ _)); exact BK218.out)) : gb218 ≠ gb219)); have n9_ := Aside0.mk ((by rw [hg]; exact Nat.ne_of_gt (blk_lt (g := gb218) (o := .cells #[.string (⟨#[]⟩ : ByteArray), .string (⟨#[]⟩ : ByteArray)] 55 (0, 0)) (by (with_reducible repeat (first | refine bN_ ?_ _ | refine bD_ ?_ | refine bA_ ?_ _)); exact BK218.out)) : gb219 ≠ gb218)); clear BK217; clear BK218; clear HB; have BK217 := n0_; have BK218 := n1_; have HB := n2_; have BK219 := n3_; have GW219 := n4_; have GE219 := n5_; have NB217_219 := n6_; have NB219_217 := n7_; have NB218_219 := n8_; have NB219_218 := n9_; clear n0_ n1_ n2_ n3_ n4_ n5_ n6_ n7_ n8_ n9_; clear hb hbox hg; have hnb5 := NB217_218.out; have hnc5 := NB218_217.out; have hnb6 := NB217_219.out; have hnc6 := NB219_217.out; have hcz7_0 : w4.cell? ⟨gb217, 0, none⟩ = some (.string a0_0) := (blk_cell BK217.out 0).trans rfl; have hcz7_1 : w4.cell? ⟨gb217, 1, none⟩ = some (.string a0_1) := (blk_cell BK217.out 1).trans rfl; have hfz7_0 := blk_frozen BK217.out 0; have hfz7_1 := blk_frozen BK217.out 1; have hnb8 := NB219_218.out; have hnc8 := NB218_219.out; have hcz9_0 : w4.cell? ⟨gb219, 0, none⟩ = some (.string (⟨#[]⟩ : ByteArray)) := (blk_cell BK219.out 0).trans rfl; have hcz9_1 : w4.cell? ⟨gb219, 1, none⟩ = some (.string (⟨#[]⟩ : ByteArray)) := (blk_cell BK219.out 1).trans rfl; have hfz9_0 := blk_frozen BK219.out 0; have hfz9_1 := blk_frozen BK219.out 1; have hcz10_0 : w4.cell? ⟨gb218, 0, none⟩ = some (.string (⟨#[]⟩ : ByteArray)) := (blk_cell BK218.out 0).trans rfl; have hcz10_1 : w4.cell? ⟨gb218, 1, none⟩ = some (.string (⟨#[]⟩ : ByteArray)) := (blk_cell BK218.out 1).trans rfl; have hfz10_0 := blk_frozen BK218.out 0; have hfz10_1 := blk_frozen BK218.out 1))
 refine bodyPost_ret (results_cell_row rfl _ _ gb218 55 #[.string a0_0, .string a0_1] (0, 0) _ rfl (by (with_reducible repeat (first | refine bN_ ?_ _ | refine bD_ ?_ | refine bA_ ?_ _)); refine blk_put (cs := #[.string a0_0, .string (⟨#[]⟩ : ByteArray)]) ?_ 1 _ rfl; (with_reducible repeat (first | refine bN_ ?_ _ | refine bD_ ?_ | refine bA_ ?_ _)); refine blk_put (cs := #[.string (⟨#[]⟩ : ByteArray), .string (⟨#[]⟩ : ByteArray)]) ?_ 0 _ rfl; (with_reducible repeat (first | refine bN_ ?_ _ | refine bD_ ?_ | refine bA_ ?_ _)); refine blk_far ?_ NB218_219.out _; (with_reducible repeat (first | refine bN_ ?_ _ | refine bD_ ?_ | refine bA_ ?_ _)); refine blk_far ?_ NB218_219.out _; (with_reducible repeat (first | refine bN_ ?_ _ | refine bD_ ?_ | refine bA_ ?_ _)); exact BK218.out) Tryz.underlying55 rfl (by kernel_rfl)) rfl ?_
 exact ⟨zb6, by repeat (first | (with_reducible first | exact HB.out | apply below_alloc | apply pw_below_drewN | apply below_drew1 | refine below_set ?_ GE217.out | refine below_set ?_ GE218.out | refine below_set ?_ GE219.out) | exact HB.out)⟩

end Go.Proofs.YtbepbfibanmhoaaGreatDoor.G
end

section
-- PRINTED by print.py (a twelfth state) out of the translation. Not trusted: Lean checks it.
namespace Go.Proofs.YtbepbfibanmhoaaGreatDoor.G
open Go.RowKit Go.Proofs.YtbepbfibanmhoaaGreatDoorW.PrintWords Go.Proofs.YtbepbfibanmhoaaGreatDoorW.PrintLast Go.Proofs.YtbepbfibanmhoaaGreatDoorW.PrintMore
attribute [local go_sem] max2_int min2_int max_two min_two max_three min_three max_four min_four   -- for this text's walks alone
attribute [local go_sem high] Go.Proofs.YtbepbfibanmhoaaGreatDoor.G.str_gtr Go.Proofs.YtbepbfibanmhoaaGreatDoor.G.str_leq Go.Proofs.YtbepbfibanmhoaaGreatDoor.G.str_geq
set_option linter.unusedVariables false
set_option linter.unusedSimpArgs false

/-! ### laws_toBoundS: function 9 -/
def laws_toBoundS.l0 : Nat → List (S48) → List (S55) → Int → Option ((List (S55)))
 | 0, _, _, _ => none
 | k + 1, x0, x3, x4 => if x4 < (x0.length : Int) then (if 0 ≤ x4 then ((laws_toBound.f ((rd_T48 x0 x4).f0) ((rd_T48 x0 x4).f1)).bind fun bt224 => (if x4 < (x3.length : Int) then (laws_toBoundS.l0 k x0 (x3.set (x4 : Int).toNat (⟨bt224.1, bt224.2⟩ : S55)) (wrap64 (x4 + 1))) else (none))) else (none)) else (some x3)
def laws_toBoundS.f (k : Nat) (l0 : List (S48)) : Option ((List (S55))) := if 0 ≤ (l0.length : Int) then (if ((l0.length : Int) : Int).toNat ≤ 8796093022208 then (laws_toBoundS.l0 k l0 (List.replicate ((l0.length : Int) : Int).toNat z55) 0) else (none)) else (none)
theorem laws_toBoundS.mono_l : ∀ k, (∀ y0 y1 y2, LeO (laws_toBoundS.l0 k y0 y1 y2) (laws_toBoundS.l0 (k + 1) y0 y1 y2))
 | 0 => fun _ _ _ r h => by simp [laws_toBoundS.l0] at h
 | k + 1 => by
  have ih0 := laws_toBoundS.mono_l k
  ·intro y0 y1 y2
   unfold laws_toBoundS.l0
   repeat' first
   | (with_reducible exact ih0 _ _ _)
   | (with_reducible exact LeO.refl _)
   | (with_reducible exact LeO.none _)
   | (with_reducible refine LeO.ite ?_ ?_)
   | (with_reducible refine LeO.bind ?_ (fun _ => ?_))
   | exact ih0 _ _ _
   | exact LeO.none _
   | refine LeO.ite ?_ ?_
   | refine LeO.bind ?_ (fun _ => ?_)
theorem laws_toBoundS.mono : ∀ a0 k, LeO (laws_toBoundS.f k a0) (laws_toBoundS.f (k + 1) a0) := by
 intro a0 k
 have ih0 := laws_toBoundS.mono_l k
 unfold laws_toBoundS.f
 repeat' first
   | (with_reducible exact ih0 _ _ _)
   | (with_reducible exact LeO.refl _)
   | (with_reducible exact LeO.none _)
   | (with_reducible refine LeO.ite ?_ ?_)
   | (with_reducible refine LeO.bind ?_ (fun _ => ?_))
   | exact ih0 _ _ _
   | exact LeO.none _
   | refine LeO.ite ?_ ?_
   | refine LeO.bind ?_ (fun _ => ?_)
set_option maxHeartbeats 8000000 in
set_option maxRecDepth 100000 in
theorem laws_toBoundS.calls (k : Nat) (A0 : Option Addr) (c0 : Nat) (l0 : List (S48)) (r : List (S55)) (w : World) (hr0 : Kd.C k48 w A0 l0.length l0) (hc0 : l0.length ≤ c0) (h : laws_toBoundS.f k l0 = some r) :
  Calls Tryz.prog 9 #[.slice A0 l0.length c0] w fun e w' => ∃ v0_ : Value, e = .returned (v0_) ∧ Kd.R k55 55 w' w.heap.size (fun _ => True) v0_ r ∧ Below w.heap.size w w' := by
 have hu48 := Tryz.underlying48
 have hu55 := Tryz.underlying55
 have HR0 := Aside0.mk hr0
 have HC0 := Aside0.mk hc0
 clear hr0 hc0
 have HB := Aside0.mk (Below.refl w.heap.size w)
 have H : (if 0 ≤ (l0.length : Int) then (if ((l0.length : Int) : Int).toNat ≤ 8796093022208 then (laws_toBoundS.l0 k l0 (List.replicate ((l0.length : Int) : Int).toNat z55) 0) else (none)) else (none)) = some r := h
 clear h
 by_cases c2 : 0 ≤ (l0.length : Int)
 ·rw [if_pos c2] at H
  have c2b0 := eq_true c2
  have c2b1 : decide (0 ≤ (l0.length : Int)) = true := decide_eq_true c2
  clear c2
  by_cases c3 : ((l0.length : Int) : Int).toNat ≤ 8796093022208
  ·rw [if_pos c3] at H
   have c3b0 := eq_true c3
   have c3b1 : decide (((l0.length : Int) : Int).toNat ≤ 8796093022208) = true := decide_eq_true c3
   clear c3
   obtain ⟨y220, hy220⟩ : ∃ y_ : List (S55), y_ = (List.replicate ((l0.length : Int) : Int).toNat z55) := ⟨_, rfl⟩
   replace H : (laws_toBoundS.l0 k l0 y220 0) = some r := by first | (rw [hy220]; with_reducible exact H) | (have H2_ := (Option.bind_some _ _).symm.trans H; rw [hy220]; with_reducible exact H2_) | (have H2_ := (Option.bind_some _ _).symm.trans H; with_reducible exact H2_) | with_reducible exact H | (rw [hy220]; exact H) | exact H
   have Ny220 := Aside0.mk hy220
   clear hy220
   have H' := Aside0.mk H
   clear H
   go_enter Tryz.func9, Tryz.ntmps9
   go_wp2_with (first | ((with_reducible refine gate_dst (N := 7) rfl ?_); refine Kd.R_make k55 _ 55 rfl (N := 7) rfl 25 _ _ rfl (l0.length : Int) rfl rfl Tryz.underlying25 (.agg #[(.string ⟨#[]⟩), (.string ⟨#[]⟩)]) 32 info55 rfl (by decide) (by omega) z55 (ok := fun _ => True) (okp := fun _ => True) (k55_mkM _ _ _ z55 ) (fun _ hk => hk) trivial (of_decide_eq_true zb4) (Nat.le_trans (Nat.mul_le_mul_right _ (of_decide_eq_true zb4 : (l0.length : Int).toNat ≤ 8796093022208)) (by omega)) (Below.refl _ _) (Nat.le_refl _) ?_; intro v221 w4 ho5 hb hg_ hnew_; clear hg_ hnew_; (first | rw [← Ny220.out] at ho5 | (simp only [Int.reduceToNat] at ho5; rw [← Ny220.out] at ho5)); have n0_ := Aside0.mk (Kd.R_lower ho5 (below_size zb0)); have n1_ := Aside0.mk (below_step zb0 hb); clear HB; have HO222 := n0_; have HB := n1_; clear n0_ n1_; clear hb ho5))
   go_loopg [4] k (fun kq v4 w' => ∃ (x3_1 : List (S55)) (x4_1 : Int), v4 = .int .i64 x4_1 ∧ Aside0 (laws_toBoundS.l0 kq l0 x3_1 x4_1 = some r) ∧ Aside0 (kq ≤ k) ∧ Aside0 (Kd.R k55 55 w' w.heap.size (fun _ => True) v221 x3_1) ∧ Aside0 (Below w.heap.size w w'))
   case atStart => exact ⟨(y220), (0), zb5, H', ⟨Nat.le_refl _⟩, ⟨by (with_reducible repeat (first | apply Kd.R_alloc | apply Kd.R_drewN | apply Kd.R_drew)); exact HO222.out⟩, ⟨by repeat (first | (with_reducible first | exact HB.out | apply below_alloc | apply pw_below_drewN | apply below_drew1) | exact HB.out)⟩⟩
   case round =>
    clear H'
    try clear c2
    try clear c2b0
    try clear c2b1
    try clear p2
    try clear c3
    try clear c3b0
    try clear c3b1
    obtain ⟨x3_1, x4_1, rfl, HA, HK1, HO_3, HB⟩ := hrel
    cases gk with
    | zero => exact absurd HA.out (by simp [laws_toBoundS.l0])
    | succ k1 =>
     have H := HA.out
     clear HA
     simp only [laws_toBoundS.l0] at H
     by_cases c6 : x4_1 < (l0.length : Int)
     ·rw [if_pos c6] at H
      have c6b0 : decide (x4_1 < (l0.length : Int)) = true := decide_eq_true c6
      clear c6
      by_cases c7 : 0 ≤ x4_1
      ·rw [if_pos c7] at H
       have c7b0 : decide (0 ≤ x4_1) = true := decide_eq_true c7
       clear c7
       replace H := Option.bind_eq_some_iff.mp H
       obtain ⟨⟨t224, t225⟩, A80, H⟩ := H
       replace H : (if x4_1 < (x3_1.length : Int) then (laws_toBoundS.l0 k1 l0 (x3_1.set (x4_1 : Int).toNat (⟨t224, t225⟩ : S55)) (wrap64 (x4_1 + 1))) else (none)) = some r := H
       have A8 := Aside0.mk A80
       clear A80
       by_cases c9 : x4_1 < (x3_1.length : Int)
       ·rw [if_pos c9] at H
        have c9b0 : decide (x4_1 < (x3_1.length : Int)) = true := decide_eq_true c9
        clear c9
        obtain ⟨y226, hy226⟩ : ∃ y_ : List (S55), y_ = (x3_1.set (x4_1 : Int).toNat (⟨t224, t225⟩ : S55)) := ⟨_, rfl⟩
        replace H : (laws_toBoundS.l0 k1 l0 y226 (wrap64 (x4_1 + 1))) = some r := by first | (rw [hy226]; with_reducible exact H) | (have H2_ := (Option.bind_some _ _).symm.trans H; rw [hy226]; with_reducible exact H2_) | (have H2_ := (Option.bind_some _ _).symm.trans H; with_reducible exact H2_) | with_reducible exact H | (rw [hy226]; exact H) | exact H
        have Ny226 := Aside0.mk hy226
        clear hy226
        have H' := Aside0.mk H
        clear H
        have p223 : 0 ≤ (x4_1 : Int) := of_decide_eq_true zb4
        have q223 : x4_1 < (l0.length : Int) := of_decide_eq_true zb4
        obtain ⟨ad223, e223, hx223_0, hx223_1⟩ := at_T48 HR0.out x4_1 p223 q223
        cases e223
        replace hx223_0 := (HB.out.cell (World.block_lt_of_cell? w _ hx223_0)).trans hx223_0
        replace hx223_1 := (HB.out.cell (World.block_lt_of_cell? w _ hx223_1)).trans hx223_1
        replace p223 := eq_true p223
        replace q223 := eq_true q223
        go_wp2_with (first | ((with_reducible refine gate_callee (f := 30) rfl ?_); refine goesL_ (some 20) rfl rfl Tryz.func30 (by kernel_rfl) rfl #[.agg #[.string ((rd_T48 l0 x4_1).f0), .string ((rd_T48 l0 x4_1).f1)]] rfl zb1 ?_; (with_reducible refine (laws_toBound.calls ((rd_T48 l0 x4_1).f0) ((rd_T48 l0 x4_1).f1) t224 t225 _ A8.out).mono ?_); rintro e w11 ⟨rfl, hb⟩; refine ⟨_, rfl, ?_⟩; have n0_ := Aside0.mk (Kd.R_below (by (with_reducible repeat (first | apply Kd.R_alloc | apply Kd.R_drewN | apply Kd.R_drew)); exact HO_3.out) hb); have n1_ := Aside0.mk (below_step zb0 hb); clear HO_3; clear HB; have HO_3 := n0_; have HB := n1_; clear n0_ n1_; (try clear hb); (try clear hb2); (try clear hk); (try clear hi); have p10 : 0 ≤ (x4_1 : Int) := of_decide_eq_true zb4; have q10 : (x4_1 : Int) < ((x3_1.length : Int) : Int) := of_decide_eq_true zb4; obtain ⟨go10, co10, eo10, gb10, gl10, cl10, HG10⟩ := Kd.R_form HO_3.out (by omega); (first | cases eo10 | (injection eo10 with ea_ en_ ec_; (first | subst ea_ | (injection ea_ with ea_; subst ea_)); subst ec_; clear en_)); have GB10 := Aside0.mk gb10; have GG10 := Aside0.mk HG10; clear gb10 gl10 HG10; obtain ⟨ce10, hcl10, hM10, hcc10, hfr10⟩ := Kd.R_elem HO_3.out z55 (x4_1 : Int) p10 q10; obtain rfl := k55_openM hM10; have hx10_0 : w11.cell? ⟨go10, (x4_1 : Int).toNat * 2, none⟩ = some (.string ((rd_T55 x3_1 x4_1).f0)) := hcc10 0 _ rfl; have hx10_1 : w11.cell? ⟨go10, (x4_1 : Int).toNat * 2 + 1, none⟩ = some (.string ((rd_T55 x3_1 x4_1).f1)) := hcc10 1 _ rfl; have hf10_0 : w11.frozen? ⟨go10, (x4_1 : Int).toNat * 2, none⟩ = false := hfr10 0; have hf10_1 : w11.frozen? ⟨go10, (x4_1 : Int).toNat * 2 + 1, none⟩ = false := hfr10 1; clear hcl10 hcc10 hfr10 hM10; replace p10 := eq_true p10; replace q10 := eq_true q10; have HX12 := Aside0.mk (show Kd.R k55 55 w11 w.heap.size (fun _ => True) (.slice (some ⟨go10, 0, none⟩) x3_1.length co10) x3_1 from (by (with_reducible repeat (first | apply Kd.R_alloc | apply Kd.R_drewN | apply Kd.R_drew)); exact HO_3.out)); obtain ⟨ce12, hcl12, hM12, hcc12, hfr12⟩ := Kd.R_elem HX12.out z55 (x4_1 : Int) (of_decide_eq_true zb4) (by have h_ : (x4_1 : Int) < ((x3_1.length : Int) : Int) := of_decide_eq_true zb4; first | exact h_ | (have e_ := (Kd.R_reads' HO_3.out).1; omega) | simpa using h_); obtain rfl := k55_openM hM12; have HP12 := Kd.R_seg HX12.out (x4_1 : Int) (of_decide_eq_true zb4) (by have h_ : (x4_1 : Int) < ((x3_1.length : Int) : Int) := of_decide_eq_true zb4; first | exact h_ | (have e_ := (Kd.R_reads' HO_3.out).1; omega) | simpa using h_) (seg := [.string t224, .string t225]) (j := 0) hcl12 hcc12 (show 2 ≤ 2 from by decide) (x' := (⟨t224, t225⟩ : S55)) (k55_mkM _ _ _ (⟨t224, t225⟩ : S55) ) (fun _ hk => hk); have hx12_0 := hcc12 0 _ rfl; (try simp only [show (k55).sz = 2 from rfl, Nat.mul_one, Nat.add_zero] at hx12_0); have hf12_0 := hfr12 0; (try simp only [show (k55).sz = 2 from rfl, Nat.mul_one, Nat.add_zero] at hf12_0); have hx12_1 := hcc12 1 _ rfl; (try simp only [show (k55).sz = 2 from rfl, Nat.mul_one, Nat.add_zero] at hx12_1); have hf12_1 := hfr12 1; (try simp only [show (k55).sz = 2 from rfl, Nat.mul_one, Nat.add_zero] at hf12_1); clear hcl12 hcc12 hfr12 hM12) | ((with_reducible refine gate_store (t := 55) (p := 21) rfl ?_); refine store_event (t := 55) (p := 21) (v := ?vo_w13) (w1 := ((w11.setCell ⟨go10, (x4_1 : Int).toNat * 2, none⟩ (.string t224)).setCell ⟨go10, (x4_1 : Int).toNat * 2 + 1, none⟩ (.string t225))) ?hg ?ho ?hn ?hr ?_; (case ho => rfl); (case hg => rfl); (case hn => rfl); (case hr => first | (go_simp; done) | (go_simp; rfl)); intro w13 hw; have hg : w11.grownBy w13 (some go10) := (by rw [hw]; exact HP12.2); have hp_ : Kd.R k55 55 w13 w.heap.size (fun _ => True) (.slice (some ⟨go10, 0, none⟩) x3_1.length co10) y226 := (by rw [hw, Ny226.out]; exact HP12.1); clear HP12; have n0_ := Aside0.mk (hp_); have n1_ := Aside0.mk ((by rw [hw]; exact below_set (below_set (HB.out) GB10.out) GB10.out : Below w.heap.size w w13)); clear HO_3; clear HB; have HO_3 := n0_; have HB := n1_; clear n0_ n1_; clear hg hw hp_))
        go_roundg k1
        case measure => have := HK1.out; omega
        case rel => exact ⟨(y226), (wrap64 (x4_1 + 1)), zb5, H', ⟨by have := HK1.out; omega⟩, ⟨by (with_reducible repeat (first | apply Kd.R_alloc | apply Kd.R_drewN | apply Kd.R_drew)); exact HO_3.out⟩, ⟨by repeat (first | (with_reducible first | exact HB.out | apply below_alloc | apply pw_below_drewN | apply below_drew1) | exact HB.out)⟩⟩
       ·rw [if_neg c9] at H
        exact absurd H (by simp)
      ·rw [if_neg c7] at H
       exact absurd H (by simp)
     ·rw [if_neg c6] at H
      have c6b0 : decide (x4_1 < (l0.length : Int)) = false := decide_eq_false c6
      clear c6
      obtain rfl := Option.some.inj H
      go_wp2
      go_ret
      exact ⟨_, zb6, by (with_reducible repeat (first | apply Kd.R_alloc | apply Kd.R_drewN | apply Kd.R_drew)); exact HO_3.out, by repeat (first | (with_reducible first | exact HB.out | apply below_alloc | apply pw_below_drewN | apply below_drew1) | exact HB.out)⟩
  ·rw [if_neg c3] at H
   exact absurd H (by simp)
 ·rw [if_neg c2] at H
  exact absurd H (by simp)

end Go.Proofs.YtbepbfibanmhoaaGreatDoor.G
end

section
-- PRINTED by print.py (a twelfth state) out of the translation. Not trusted: Lean checks it.
namespace Go.Proofs.YtbepbfibanmhoaaGreatDoor.G
open Go.RowKit Go.Proofs.YtbepbfibanmhoaaGreatDoorW.PrintWords Go.Proofs.YtbepbfibanmhoaaGreatDoorW.PrintLast Go.Proofs.YtbepbfibanmhoaaGreatDoorW.PrintMore
attribute [local go_sem] max2_int min2_int max_two min_two max_three min_three max_four min_four   -- for this text's walks alone
attribute [local go_sem high] Go.Proofs.YtbepbfibanmhoaaGreatDoor.G.str_gtr Go.Proofs.YtbepbfibanmhoaaGreatDoor.G.str_leq Go.Proofs.YtbepbfibanmhoaaGreatDoor.G.str_geq
set_option linter.unusedVariables false
set_option linter.unusedSimpArgs false

/-! ### impl_compareTexts: function 33 -/
def impl_compareTexts.f (k : Nat) (a0 : ByteArray) (a1 : ByteArray) : Option (Int) := (impl_ReadVersion.f k a0).bind fun bt305 => ((impl_ReadVersion.f k a1).bind fun bt313 => ((impl_CompareVersion.f k bt305.1 bt305.2.1 bt305.2.2.1 bt305.2.2.2.1 bt313.1 bt313.2.1 bt313.2.2.1 bt313.2.2.2.1).bind fun t321 => (some t321)))
theorem impl_compareTexts.mono : ∀ a0 a1 k, LeO (impl_compareTexts.f k a0 a1) (impl_compareTexts.f (k + 1) a0 a1) := by
 intro a0 a1 k
 unfold impl_compareTexts.f
 repeat' first
   | (with_reducible exact impl_CompareVersion.mono _ _ _ _ _ _ _ _ _)
   | (with_reducible exact impl_ReadVersion.mono _ _)
   | (with_reducible exact LeO.refl _)
   | (with_reducible exact LeO.none _)
   | (with_reducible refine LeO.ite ?_ ?_)
   | (with_reducible refine LeO.bind ?_ (fun _ => ?_))
   | exact impl_CompareVersion.mono _ _ _ _ _ _ _ _ _
   | exact impl_ReadVersion.mono _ _
   | exact LeO.none _
   | refine LeO.ite ?_ ?_
   | refine LeO.bind ?_ (fun _ => ?_)
set_option maxHeartbeats 8000000 in
set_option maxRecDepth 100000 in
theorem impl_compareTexts.calls (k : Nat) (a0 : ByteArray) (a1 : ByteArray) (r : Int) (w : World) (hGE : Glob FactE w) (hGM : Glob FactM w) (hGT : Glob FactT w) (h : impl_compareTexts.f k a0 a1 = some r) :
  Calls Tryz.prog 33 #[.string a0, .string a1] w fun e w' => e = .returned (.int .i64 r) ∧ Below w.heap.size w w' := by
 have hu50 := Tryz.underlying50
 have HB := Aside0.mk (Below.refl w.heap.size w)
 have HGE := Aside0.mk hGE
 clear hGE
 have HGM := Aside0.mk hGM
 clear hGM
 have HGT := Aside0.mk hGT
 clear hGT
 have H : ((impl_ReadVersion.f k a0).bind fun bt305 => ((impl_ReadVersion.f k a1).bind fun bt313 => ((impl_CompareVersion.f k bt305.1 bt305.2.1 bt305.2.2.1 bt305.2.2.2.1 bt313.1 bt313.2.1 bt313.2.2.1 bt313.2.2.2.1).bind fun t321 => (some t321)))) = some r := h
 clear h
 replace H := Option.bind_eq_some_iff.mp H
 obtain ⟨⟨t305, t306, t307, t308, t311⟩, A30, H⟩ := H
 replace H : ((impl_ReadVersion.f k a1).bind fun bt313 => ((impl_CompareVersion.f k t305 t306 t307 t308 bt313.1 bt313.2.1 bt313.2.2.1 bt313.2.2.2.1).bind fun t321 => (some t321))) = some r := H
 have A3 := Aside0.mk A30
 clear A30
 replace H := Option.bind_eq_some_iff.mp H
 obtain ⟨⟨t313, t314, t315, t316, t319⟩, A40, H⟩ := H
 replace H : ((impl_CompareVersion.f k t305 t306 t307 t308 t313 t314 t315 t316).bind fun t321 => (some t321)) = some r := H
 have A4 := Aside0.mk A40
 clear A40
 replace H := Option.bind_eq_some_iff.mp H
 obtain ⟨t321, A50, H⟩ := H
 replace H : (some t321) = some r := H
 have A5 := Aside0.mk A50
 clear A50
 obtain rfl := Option.some.inj H
 go_enter Tryz.func33, Tryz.ntmps33
 go_wp2_with (first | ((with_reducible refine gate_callee (f := 31) rfl ?_); refine goesL_ (some 11) rfl rfl Tryz.func31 (by kernel_rfl) rfl #[.string a0] rfl zb1 ?_; (with_reducible refine (impl_ReadVersion.calls k a0 t305 t306 t307 t308 t311 _ ?side1 ?side2 ?side3 A3.out).mono ?_); (case side1 => exact Glob.below HGE.out zb0); (case side2 => exact Glob.below HGM.out zb0); (case side3 => exact Glob.below HGT.out zb0); rintro e w6 ⟨v309, rfl, ho0, hb⟩; refine ⟨_, rfl, ?_⟩; have n0_ := Aside0.mk (Kd.R_lower ho0 (below_size zb0)); have n1_ := Aside0.mk (below_step zb0 hb); clear HB; have HO310 := n0_; have HB := n1_; clear n0_ n1_; (try clear hb); (try clear hb2); (try clear hk); (try clear hi); (try clear ho0)) | ((with_reducible refine gate_dst (N := 5) rfl ?_); refine box_event ?hg (N := 5) ?hd (cs := #[.int .i64 0, .int .i64 0, .int .i64 0, .slice none 0 0]) (t := 50) ?hr ?_; (case hd => rfl); (case hg => rfl); (case hr => first | (go_simp; done) | (go_simp; rfl)); intro gb312 hg w7 hbox hb; have n0_ := Aside0.mk (Kd.R_below (by (with_reducible repeat (first | apply Kd.R_alloc | apply Kd.R_drewN | apply Kd.R_drew)); exact HO310.out) hb); have n1_ := Aside0.mk (below_step zb0 hb); have n2_ := Aside0.mk (hbox); have n3_ := Aside0.mk ((by rw [hg]; exact (below_size zb0) : w.heap.size ≤ gb312)); have n4_ := Aside0.mk ((by rw [hg]; exact (below_size zb0) : w.heap.size ≤ gb312)); clear HO310; clear HB; have HO310 := n0_; have HB := n1_; have BK312 := n2_; have GW312 := n3_; have GE312 := n4_; clear n0_ n1_ n2_ n3_ n4_; clear hb hbox hg; have hcz8_0 : w7.cell? ⟨gb312, 0, none⟩ = some (.int .i64 0) := (blk_cell BK312.out 0).trans rfl; have hcz8_1 : w7.cell? ⟨gb312, 1, none⟩ = some (.int .i64 0) := (blk_cell BK312.out 1).trans rfl; have hcz8_2 : w7.cell? ⟨gb312, 2, none⟩ = some (.int .i64 0) := (blk_cell BK312.out 2).trans rfl; have hcz8_3 : w7.cell? ⟨gb312, 3, none⟩ = some (.slice none 0 0) := (blk_cell BK312.out 3).trans rfl; have hfz8_0 := blk_frozen BK312.out 0; have hfz8_1 := blk_frozen BK312.out 1; have hfz8_2 := blk_frozen BK312.out 2; have hfz8_3 := blk_frozen BK312.out 3; obtain ⟨Ao9, co9, eo9⟩ := Kd.R_slice HO310.out; subst eo9) | ((with_reducible refine gate_callee (f := 31) rfl ?_); refine goesL_ (some 16) rfl rfl Tryz.func31 (by kernel_rfl) rfl #[.string a1] rfl zb1 ?_; (with_reducible refine (impl_ReadVersion.calls k a1 t313 t314 t315 t316 t319 _ ?side1 ?side2 ?side3 A4.out).mono ?_); (case side1 => exact Glob.below HGE.out (by repeat (first | (with_reducible first | exact HB.out | apply below_alloc | apply pw_below_drewN | apply below_drew1 | refine below_set ?_ GE312.out) | exact HB.out))); (case side2 => exact Glob.below HGM.out (by repeat (first | (with_reducible first | exact HB.out | apply below_alloc | apply pw_below_drewN | apply below_drew1 | refine below_set ?_ GE312.out) | exact HB.out))); (case side3 => exact Glob.below HGT.out (by repeat (first | (with_reducible first | exact HB.out | apply below_alloc | apply pw_below_drewN | apply below_drew1 | refine below_set ?_ GE312.out) | exact HB.out))); rintro e w10 ⟨v317, rfl, ho0, hb⟩; refine ⟨_, rfl, ?_⟩; have n0_ := Aside0.mk (Kd.R_elder' (by (with_reducible repeat (first | apply Kd.R_alloc | apply Kd.R_drewN | apply Kd.R_drew)); exact (Kd.R_mono (Kd.R_far (p := ⟨gb312, 3, none⟩) (Kd.R_far (p := ⟨gb312, 2, none⟩) (Kd.R_far (p := ⟨gb312, 1, none⟩) (Kd.R_far (p := ⟨gb312, 0, none⟩) (Kd.R_types HO310.out BK312.out (by decide)) (fun _ hk => hk.2) (.int .i64 t305)) (fun _ hk => hk.2) (.int .i64 t306)) (fun _ hk => hk.2) (.int .i64 t307)) (fun _ hk => hk.2) (.slice Ao9 t308.length co9)) (fun _ h_ => h_.1))) (Kd.R_base ho0) hb); have n1_ := Aside0.mk (Kd.R_lower (Kd.R_new' ho0 (Kd.R_lt (by (with_reducible repeat (first | apply Kd.R_alloc | apply Kd.R_drewN | apply Kd.R_drew)); exact (Kd.R_mono (Kd.R_far (p := ⟨gb312, 3, none⟩) (Kd.R_far (p := ⟨gb312, 2, none⟩) (Kd.R_far (p := ⟨gb312, 1, none⟩) (Kd.R_far (p := ⟨gb312, 0, none⟩) (Kd.R_types HO310.out BK312.out (by decide)) (fun _ hk => hk.2) (.int .i64 t305)) (fun _ hk => hk.2) (.int .i64 t306)) (fun _ hk => hk.2) (.int .i64 t307)) (fun _ hk => hk.2) (.slice Ao9 t308.length co9)) (fun _ h_ => h_.1))))) (below_size (by repeat (first | (with_reducible first | exact HB.out | apply below_alloc | apply pw_below_drewN | apply below_drew1 | refine below_set ?_ GE312.out) | exact HB.out)))); have n2_ := Aside0.mk (blk_below (g := gb312) (o := .cells #[.int .i64 t305, .int .i64 t306, .int .i64 t307, .slice Ao9 t308.length co9] 50 (0, 0)) (by (with_reducible repeat (first | refine bN_ ?_ _ | refine bD_ ?_ | refine bA_ ?_ _)); refine blk_put (cs := #[.int .i64 t305, .int .i64 t306, .int .i64 t307, .slice none 0 0]) ?_ 3 _ rfl; (with_reducible repeat (first | refine bN_ ?_ _ | refine bD_ ?_ | refine bA_ ?_ _)); refine blk_put (cs := #[.int .i64 t305, .int .i64 t306, .int .i64 0, .slice none 0 0]) ?_ 2 _ rfl; (with_reducible repeat (first | refine bN_ ?_ _ | refine bD_ ?_ | refine bA_ ?_ _)); refine blk_put (cs := #[.int .i64 t305, .int .i64 0, .int .i64 0, .slice none 0 0]) ?_ 1 _ rfl; (with_reducible repeat (first | refine bN_ ?_ _ | refine bD_ ?_ | refine bA_ ?_ _)); refine blk_put (cs := #[.int .i64 0, .int .i64 0, .int .i64 0, .slice none 0 0]) ?_ 0 _ rfl; (with_reducible repeat (first | refine bN_ ?_ _ | refine bD_ ?_ | refine bA_ ?_ _)); exact BK312.out) hb); have n3_ := Aside0.mk (below_step (by repeat (first | (with_reducible first | exact HB.out | apply below_alloc | apply pw_below_drewN | apply below_drew1 | refine below_set ?_ GE312.out) | exact HB.out)) hb); clear HO310; clear BK312; clear HB; have HO310 := n0_; have HO318 := n1_; have BK312 := n2_; have HB := n3_; clear n0_ n1_ n2_ n3_; (try clear hb); (try clear hb2); (try clear hk); (try clear hi); (try clear ho0)) | ((with_reducible refine gate_dst (N := 7) rfl ?_); refine box_event ?hg (N := 7) ?hd (cs := #[.int .i64 0, .int .i64 0, .int .i64 0, .slice none 0 0]) (t := 50) ?hr ?_; (case hd => rfl); (case hg => rfl); (case hr => first | (go_simp; done) | (go_simp; rfl)); intro gb320 hg w11 hbox hb; have n0_ := Aside0.mk (Kd.R_below (by (with_reducible repeat (first | apply Kd.R_alloc | apply Kd.R_drewN | apply Kd.R_drew)); exact HO310.out) hb); have n1_ := Aside0.mk (Kd.R_below (by (with_reducible repeat (first | apply Kd.R_alloc | apply Kd.R_drewN | apply Kd.R_drew)); exact HO318.out) hb); have n2_ := Aside0.mk (blk_below (g := gb312) (o := .cells #[.int .i64 t305, .int .i64 t306, .int .i64 t307, .slice Ao9 t308.length co9] 50 (0, 0)) (by (with_reducible repeat (first | refine bN_ ?_ _ | refine bD_ ?_ | refine bA_ ?_ _)); exact BK312.out) hb); have n3_ := Aside0.mk (below_step (by repeat (first | (with_reducible first | exact HB.out | apply below_alloc | apply pw_below_drewN | apply below_drew1 | refine below_set ?_ GE312.out) | exact HB.out)) hb); have n4_ := Aside0.mk (hbox); have n5_ := Aside0.mk ((by rw [hg]; exact (below_size (by repeat (first | (with_reducible first | exact HB.out | apply below_alloc | apply pw_below_drewN | apply below_drew1 | refine below_set ?_ GE312.out) | exact HB.out))) : w.heap.size ≤ gb320)); have n6_ := Aside0.mk ((by rw [hg]; exact (below_size (by repeat (first | (with_reducible first | exact HB.out | apply below_alloc | apply pw_below_drewN | apply below_drew1 | refine below_set ?_ GE312.out) | exact HB.out))) : w.heap.size ≤ gb320)); have n7_ := Aside0.mk ((by rw [hg]; exact Nat.ne_of_lt (blk_lt (g := gb312) (o := .cells #[.int .i64 t305, .int .i64 t306, .int .i64 t307, .slice Ao9 t308.length co9] 50 (0, 0)) (by (with_reducible repeat (first | refine bN_ ?_ _ | refine bD_ ?_ | refine bA_ ?_ _)); exact BK312.out)) : gb312 ≠ gb320)); have n8_ := Aside0.mk ((by rw [hg]; exact Nat.ne_of_gt (blk_lt (g := gb312) (o := .cells #[.int .i64 t305, .int .i64 t306, .int .i64 t307, .slice Ao9 t308.length co9] 50 (0, 0)) (by (with_reducible repeat (first | refine bN_ ?_ _ | refine bD_ ?_ | refine bA_ ?_ _)); exact BK312.out)) : gb320 ≠ gb312)); clear HO310; clear HO318; clear BK312; clear HB; have HO310 := n0_; have HO318 := n1_; have BK312 := n2_; have HB := n3_; have BK320 := n4_; have GW320 := n5_; have GE320 := n6_; have NB312_320 := n7_; have NB320_312 := n8_; clear n0_ n1_ n2_ n3_ n4_ n5_ n6_ n7_ n8_; clear hb hbox hg; have hnb12 := NB320_312.out; have hnc12 := NB312_320.out; have hcz13_0 : w11.cell? ⟨gb320, 0, none⟩ = some (.int .i64 0) := (blk_cell BK320.out 0).trans rfl; have hcz13_1 : w11.cell? ⟨gb320, 1, none⟩ = some (.int .i64 0) := (blk_cell BK320.out 1).trans rfl; have hcz13_2 : w11.cell? ⟨gb320, 2, none⟩ = some (.int .i64 0) := (blk_cell BK320.out 2).trans rfl; have hcz13_3 : w11.cell? ⟨gb320, 3, none⟩ = some (.slice none 0 0) := (blk_cell BK320.out 3).trans rfl; have hfz13_0 := blk_frozen BK320.out 0; have hfz13_1 := blk_frozen BK320.out 1; have hfz13_2 := blk_frozen BK320.out 2; have hfz13_3 := blk_frozen BK320.out 3; obtain ⟨Ao14, co14, eo14⟩ := Kd.R_slice HO318.out; subst eo14; have hcz15_0 : w11.cell? ⟨gb312, 0, none⟩ = some (.int .i64 t305) := (blk_cell BK312.out 0).trans rfl; have hcz15_1 : w11.cell? ⟨gb312, 1, none⟩ = some (.int .i64 t306) := (blk_cell BK312.out 1).trans rfl; have hcz15_2 : w11.cell? ⟨gb312, 2, none⟩ = some (.int .i64 t307) := (blk_cell BK312.out 2).trans rfl; have hcz15_3 : w11.cell? ⟨gb312, 3, none⟩ = some (.slice Ao9 t308.length co9) := (blk_cell BK312.out 3).trans rfl; have hfz15_0 := blk_frozen BK312.out 0; have hfz15_1 := blk_frozen BK312.out 1; have hfz15_2 := blk_frozen BK312.out 2; have hfz15_3 := blk_frozen BK312.out 3) | ((with_reducible refine gate_callee (f := 62) rfl ?_); refine goesL_ (some 21) rfl rfl Tryz.func62 (by kernel_rfl) rfl #[.agg #[.int .i64 t305, .int .i64 t306, .int .i64 t307, .slice Ao9 t308.length co9], .agg #[.int .i64 t313, .int .i64 t314, .int .i64 t315, .slice Ao14 t316.length co14]] rfl zb1 ?_; (with_reducible refine (impl_CompareVersion.calls k t305 t306 t307 _ _ t308 t313 t314 t315 _ _ t316 t321 _ ?side1 ?side2 ?side3 ?side4 A5.out).mono ?_); (case side1 => refine (Kd.R_reads' (e := 9) (base := w.heap.size) (ok := fun k_ => (True ∧ some k_ ≠ (.slice Ao14 t316.length co14 : Value).ownBlock)) (n := t308.length) (c := co9) ?_).2.2; exact (by (with_reducible repeat (first | apply Kd.R_alloc | apply Kd.R_drewN | apply Kd.R_drew)); exact (Kd.R_mono (Kd.R_far (p := ⟨gb320, 3, none⟩) (Kd.R_far (p := ⟨gb320, 2, none⟩) (Kd.R_far (p := ⟨gb320, 1, none⟩) (Kd.R_far (p := ⟨gb320, 0, none⟩) (Kd.R_types HO310.out BK320.out (by decide)) (fun _ hk => hk.2) (.int .i64 t313)) (fun _ hk => hk.2) (.int .i64 t314)) (fun _ hk => hk.2) (.int .i64 t315)) (fun _ hk => hk.2) (.slice Ao14 t316.length co14)) (fun _ h_ => h_.1)))); (case side2 => exact (Kd.R_reads' HO310.out).2.1); (case side3 => refine (Kd.R_reads' (e := 9) (base := w.heap.size) (ok := fun k_ => (True ∧ some k_ ≠ (.slice Ao9 t308.length co9 : Value).ownBlock)) (n := t316.length) (c := co14) ?_).2.2; exact (by (with_reducible repeat (first | apply Kd.R_alloc | apply Kd.R_drewN | apply Kd.R_drew)); exact (Kd.R_mono (Kd.R_far (p := ⟨gb320, 3, none⟩) (Kd.R_far (p := ⟨gb320, 2, none⟩) (Kd.R_far (p := ⟨gb320, 1, none⟩) (Kd.R_far (p := ⟨gb320, 0, none⟩) (Kd.R_types HO318.out BK320.out (by decide)) (fun _ hk => hk.2) (.int .i64 t313)) (fun _ hk => hk.2) (.int .i64 t314)) (fun _ hk => hk.2) (.int .i64 t315)) (fun _ hk => hk.2) (.slice Ao14 t316.length co14)) (fun _ h_ => h_.1)))); (case side4 => exact (Kd.R_reads' HO318.out).2.1); rintro e w16 ⟨rfl, hb⟩; refine ⟨_, rfl, ?_⟩; have n0_ := Aside0.mk (Kd.R_below (by (with_reducible repeat (first | apply Kd.R_alloc | apply Kd.R_drewN | apply Kd.R_drew)); exact (Kd.R_mono (Kd.R_far (p := ⟨gb320, 3, none⟩) (Kd.R_far (p := ⟨gb320, 2, none⟩) (Kd.R_far (p := ⟨gb320, 1, none⟩) (Kd.R_far (p := ⟨gb320, 0, none⟩) (Kd.R_types HO310.out BK320.out (by decide)) (fun _ hk => hk.2) (.int .i64 t313)) (fun _ hk => hk.2) (.int .i64 t314)) (fun _ hk => hk.2) (.int .i64 t315)) (fun _ hk => hk.2) (.slice Ao14 t316.length co14)) (fun _ h_ => h_.1))) hb); have n1_ := Aside0.mk (Kd.R_below (by (with_reducible repeat (first | apply Kd.R_alloc | apply Kd.R_drewN | apply Kd.R_drew)); exact (Kd.R_mono (Kd.R_far (p := ⟨gb320, 3, none⟩) (Kd.R_far (p := ⟨gb320, 2, none⟩) (Kd.R_far (p := ⟨gb320, 1, none⟩) (Kd.R_far (p := ⟨gb320, 0, none⟩) (Kd.R_types HO318.out BK320.out (by decide)) (fun _ hk => hk.2) (.int .i64 t313)) (fun _ hk => hk.2) (.int .i64 t314)) (fun _ hk => hk.2) (.int .i64 t315)) (fun _ hk => hk.2) (.slice Ao14 t316.length co14)) (fun _ h_ => h_.1))) hb); have n2_ := Aside0.mk (blk_below (g := gb312) (o := .cells #[.int .i64 t305, .int .i64 t306, .int .i64 t307, .slice Ao9 t308.length co9] 50 (0, 0)) (by (with_reducible repeat (first | refine bN_ ?_ _ | refine bD_ ?_ | refine bA_ ?_ _)); refine blk_far ?_ NB312_320.out _; (with_reducible repeat (first | refine bN_ ?_ _ | refine bD_ ?_ | refine bA_ ?_ _)); refine blk_far ?_ NB312_320.out _; (with_reducible repeat (first | refine bN_ ?_ _ | refine bD_ ?_ | refine bA_ ?_ _)); refine blk_far ?_ NB312_320.out _; (with_reducible repeat (first | refine bN_ ?_ _ | refine bD_ ?_ | refine bA_ ?_ _)); refine blk_far ?_ NB312_320.out _; (with_reducible repeat (first | refine bN_ ?_ _ | refine bD_ ?_ | refine bA_ ?_ _)); exact BK312.out) hb); have n3_ := Aside0.mk (blk_below (g := gb320) (o := .cells #[.int .i64 t313, .int .i64 t314, .int .i64 t315, .slice Ao14 t316.length co14] 50 (0, 0)) (by (with_reducible repeat (first | refine bN_ ?_ _ | refine bD_ ?_ | refine bA_ ?_ _)); refine blk_put (cs := #[.int .i64 t313, .int .i64 t314, .int .i64 t315, .slice none 0 0]) ?_ 3 _ rfl; (with_reducible repeat (first | refine bN_ ?_ _ | refine bD_ ?_ | refine bA_ ?_ _)); refine blk_put (cs := #[.int .i64 t313, .int .i64 t314, .int .i64 0, .slice none 0 0]) ?_ 2 _ rfl; (with_reducible repeat (first | refine bN_ ?_ _ | refine bD_ ?_ | refine bA_ ?_ _)); refine blk_put (cs := #[.int .i64 t313, .int .i64 0, .int .i64 0, .slice none 0 0]) ?_ 1 _ rfl; (with_reducible repeat (first | refine bN_ ?_ _ | refine bD_ ?_ | refine bA_ ?_ _)); refine blk_put (cs := #[.int .i64 0, .int .i64 0, .int .i64 0, .slice none 0 0]) ?_ 0 _ rfl; (with_reducible repeat (first | refine bN_ ?_ _ | refine bD_ ?_ | refine bA_ ?_ _)); exact BK320.out) hb); have n4_ := Aside0.mk (below_step (by repeat (first | (with_reducible first | exact HB.out | apply below_alloc | apply pw_below_drewN | apply below_drew1 | refine below_set ?_ GE312.out | refine below_set ?_ GE320.out) | exact HB.out)) hb); clear HO310; clear HO318; clear BK312; clear BK320; clear HB; have HO310 := n0_; have HO318 := n1_; have BK312 := n2_; have BK320 := n3_; have HB := n4_; clear n0_ n1_ n2_ n3_ n4_; (try clear hb); (try clear hb2); (try clear hk); (try clear hi)))
 go_ret
 exact ⟨zb6, by repeat (first | (with_reducible first | exact HB.out | apply below_alloc | apply pw_below_drewN | apply below_drew1 | refine below_set ?_ GE312.out | refine below_set ?_ GE320.out) | exact HB.out)⟩

end Go.Proofs.YtbepbfibanmhoaaGreatDoor.G
end

section
-- PRINTED by print.py (a twelfth state) out of the translation. Not trusted: Lean checks it.
namespace Go.Proofs.YtbepbfibanmhoaaGreatDoor.G
open Go.RowKit Go.Proofs.YtbepbfibanmhoaaGreatDoorW.PrintWords Go.Proofs.YtbepbfibanmhoaaGreatDoorW.PrintLast Go.Proofs.YtbepbfibanmhoaaGreatDoorW.PrintMore
attribute [local go_sem] max2_int min2_int max_two min_two max_three min_three max_four min_four   -- for this text's walks alone
attribute [local go_sem high] Go.Proofs.YtbepbfibanmhoaaGreatDoor.G.str_gtr Go.Proofs.YtbepbfibanmhoaaGreatDoor.G.str_leq Go.Proofs.YtbepbfibanmhoaaGreatDoor.G.str_geq
set_option linter.unusedVariables false
set_option linter.unusedSimpArgs false

/-! ### impl_In: function 10 -/
mutual
def impl_In.j0 : Nat → ByteArray → List (S55) → Bool → Int → Int → Int → List ByteArray → Option (Bool)
 | 0, _, _, _, _, _, _, _ => none
 | k + 1, x0, x1, x22, x330000, x330001, x330002, x330003 => if x22 = true then (some false) else (impl_In.l0 k x0 x1 (x1.length : Int) 0 x330000 x330001 x330002 x330003)
def impl_In.l0 : Nat → ByteArray → List (S55) → Int → Int → Int → Int → Int → List ByteArray → Option (Bool)
 | 0, _, _, _, _, _, _, _, _ => none
 | k + 1, x0, x23, x24, x25, x330000, x330001, x330002, x330003 => if x25 < x24 then (if 0 ≤ x25 then (if x25 < (x23.length : Int) then (if ((rd_T55 x23 x25).f0).toList = ([] : List UInt8) then (if ((rd_T55 x23 x25).f1).toList = ([] : List UInt8) then (impl_In.j2 k x0 x23 x24 x25 false x330000 x330001 x330002 x330003 ((rd_T55 x23 x25).f0) ((rd_T55 x23 x25).f1)) else ((impl_compareTexts.f k x0 ((rd_T55 x23 x25).f1)).bind fun t333 => (impl_In.j2 k x0 x23 x24 x25 (decide (t333 ≥ 0)) x330000 x330001 x330002 x330003 ((rd_T55 x23 x25).f0) ((rd_T55 x23 x25).f1)))) else ((impl_compareTexts.f k x0 ((rd_T55 x23 x25).f0)).bind fun t334 => (if t334 < 0 then (impl_In.j2 k x0 x23 x24 x25 true x330000 x330001 x330002 x330003 ((rd_T55 x23 x25).f0) ((rd_T55 x23 x25).f1)) else (if ((rd_T55 x23 x25).f1).toList = ([] : List UInt8) then (impl_In.j2 k x0 x23 x24 x25 false x330000 x330001 x330002 x330003 ((rd_T55 x23 x25).f0) ((rd_T55 x23 x25).f1)) else ((impl_compareTexts.f k x0 ((rd_T55 x23 x25).f1)).bind fun t335 => (impl_In.j2 k x0 x23 x24 x25 (decide (t335 ≥ 0)) x330000 x330001 x330002 x330003 ((rd_T55 x23 x25).f0) ((rd_T55 x23 x25).f1))))))) else (none)) else (none)) else (some false)
def impl_In.j2 : Nat → ByteArray → List (S55) → Int → Int → Bool → Int → Int → Int → List ByteArray → ByteArray → ByteArray → Option (Bool)
 | 0, _, _, _, _, _, _, _, _, _, _, _ => none
 | k + 1, x0, x23, x24, x25, x50, x330000, x330001, x330002, x330003, x333000, x333001 => if x50 = true then (impl_In.l0 k x0 x23 x24 (wrap64 (x25 + 1)) x330000 x330001 x330002 x330003) else ((impl_ReadVersion.f k x333000).bind fun bt336 => (if (x330003.length : Int) = 0 then (some true) else (if (bt336.2.2.2.1.length : Int) > 0 then (if bt336.1 = x330000 then (if bt336.2.1 = x330001 then (if bt336.2.2.1 = x330002 then (some true) else (impl_In.l0 k x0 x23 x24 (wrap64 (x25 + 1)) x330000 x330001 x330002 x330003)) else (impl_In.l0 k x0 x23 x24 (wrap64 (x25 + 1)) x330000 x330001 x330002 x330003)) else (impl_In.l0 k x0 x23 x24 (wrap64 (x25 + 1)) x330000 x330001 x330002 x330003)) else (impl_In.l0 k x0 x23 x24 (wrap64 (x25 + 1)) x330000 x330001 x330002 x330003))))
end
def impl_In.f (k : Nat) (a0 : ByteArray) (l1 : List (S55)) : Option (Bool) := (impl_ReadVersion.f k a0).bind fun bt322 => (if bt322.2.2.2.2 = true then ((impl_RangeOk.f k l1).bind fun t330 => (impl_In.j0 k a0 l1 (!t330) bt322.1 bt322.2.1 bt322.2.2.1 bt322.2.2.2.1)) else (impl_In.j0 k a0 l1 true bt322.1 bt322.2.1 bt322.2.2.1 bt322.2.2.2.1))
theorem impl_In.mono_l : ∀ k, (∀ y0 y1 y2 y3 y4 y5 y6, LeO (impl_In.j0 k y0 y1 y2 y3 y4 y5 y6) (impl_In.j0 (k + 1) y0 y1 y2 y3 y4 y5 y6)) ∧ (∀ y0 y1 y2 y3 y4 y5 y6 y7, LeO (impl_In.l0 k y0 y1 y2 y3 y4 y5 y6 y7) (impl_In.l0 (k + 1) y0 y1 y2 y3 y4 y5 y6 y7)) ∧ (∀ y0 y1 y2 y3 y4 y5 y6 y7 y8 y9 y10, LeO (impl_In.j2 k y0 y1 y2 y3 y4 y5 y6 y7 y8 y9 y10) (impl_In.j2 (k + 1) y0 y1 y2 y3 y4 y5 y6 y7 y8 y9 y10))
 | 0 => ⟨fun _ _ _ _ _ _ _ r h => by simp [impl_In.j0] at h, fun _ _ _ _ _ _ _ _ r h => by simp [impl_In.l0] at h, fun _ _ _ _ _ _ _ _ _ _ _ r h => by simp [impl_In.j2] at h⟩
 | k + 1 => by
  obtain ⟨ih0, ih1, ih2⟩ := impl_In.mono_l k
  refine ⟨?_, ?_, ?_⟩
  ·intro y0 y1 y2 y3 y4 y5 y6
   unfold impl_In.j0
   repeat' first
   | (with_reducible exact ih0 _ _ _ _ _ _ _)
   | (with_reducible exact ih1 _ _ _ _ _ _ _ _)
   | (with_reducible exact ih2 _ _ _ _ _ _ _ _ _ _ _)
   | (with_reducible exact impl_RangeOk.mono _ _)
   | (with_reducible exact impl_ReadVersion.mono _ _)
   | (with_reducible exact impl_compareTexts.mono _ _ _)
   | (with_reducible exact LeO.refl _)
   | (with_reducible exact LeO.none _)
   | (with_reducible refine LeO.ite ?_ ?_)
   | (with_reducible refine LeO.bind ?_ (fun _ => ?_))
   | exact ih0 _ _ _ _ _ _ _
   | exact ih1 _ _ _ _ _ _ _ _
   | exact ih2 _ _ _ _ _ _ _ _ _ _ _
   | exact impl_RangeOk.mono _ _
   | exact impl_ReadVersion.mono _ _
   | exact impl_compareTexts.mono _ _ _
   | exact LeO.none _
   | refine LeO.ite ?_ ?_
   | refine LeO.bind ?_ (fun _ => ?_)
  ·intro y0 y1 y2 y3 y4 y5 y6 y7
   unfold impl_In.l0
   repeat' first
   | (with_reducible exact ih0 _ _ _ _ _ _ _)
   | (with_reducible exact ih1 _ _ _ _ _ _ _ _)
   | (with_reducible exact ih2 _ _ _ _ _ _ _ _ _ _ _)
   | (with_reducible exact impl_RangeOk.mono _ _)
   | (with_reducible exact impl_ReadVersion.mono _ _)
   | (with_reducible exact impl_compareTexts.mono _ _ _)
   | (with_reducible exact LeO.refl _)
   | (with_reducible exact LeO.none _)
   | (with_reducible refine LeO.ite ?_ ?_)
   | (with_reducible refine LeO.bind ?_ (fun _ => ?_))
   | exact ih0 _ _ _ _ _ _ _
   | exact ih1 _ _ _ _ _ _ _ _
   | exact ih2 _ _ _ _ _ _ _ _ _ _ _
   | exact impl_RangeOk.mono _ _
   | exact impl_ReadVersion.mono _ _
   | exact impl_compareTexts.mono _ _ _
   | exact LeO.none _
   | refine LeO.ite ?_ ?_
   | refine LeO.bind ?_ (fun _ => ?_)
  ·intro y0 y1 y2 y3 y4 y5 y6 y7 y8 y9 y10
   unfold impl_In.j2
   repeat' first
   | (with_reducible exact ih0 _ _ _ _ _ _ _)
   | (with_reducible exact ih1 _ _ _ _ _ _ _ _)
   | (with_reducible exact ih2 _ _ _ _ _ _ _ _ _ _ _)
   | (with_reducible exact impl_RangeOk.mono _ _)
   | (with_reducible exact impl_ReadVersion.mono _ _)
   | (with_reducible exact impl_compareTexts.mono _ _ _)
   | (with_reducible exact LeO.refl _)
   | (with_reducible exact LeO.none _)
   | (with_reducible refine LeO.ite ?_ ?_)
   | (with_reducible refine LeO.bind ?_ (fun _ => ?_))
   | exact ih0 _ _ _ _ _ _ _
   | exact ih1 _ _ _ _ _ _ _ _
   | exact ih2 _ _ _ _ _ _ _ _ _ _ _
   | exact impl_RangeOk.mono _ _
   | exact impl_ReadVersion.mono _ _
   | exact impl_compareTexts.mono _ _ _
   | exact LeO.none _
   | refine LeO.ite ?_ ?_
   | refine LeO.bind ?_ (fun _ => ?_)
theorem impl_In.mono : ∀ a0 a1 k, LeO (impl_In.f k a0 a1) (impl_In.f (k + 1) a0 a1) := by
 intro a0 a1 k
 obtain ⟨ih0, ih1, ih2⟩ := impl_In.mono_l k
 unfold impl_In.f
 repeat' first
   | (with_reducible exact ih0 _ _ _ _ _ _ _)
   | (with_reducible exact ih1 _ _ _ _ _ _ _ _)
   | (with_reducible exact ih2 _ _ _ _ _ _ _ _ _ _ _)
   | (with_reducible exact impl_RangeOk.mono _ _)
   | (with_reducible exact impl_ReadVersion.mono _ _)
   | (with_reducible exact impl_compareTexts.mono _ _ _)
   | (with_reducible exact LeO.refl _)
   | (with_reducible exact LeO.none _)
   | (with_reducible refine LeO.ite ?_ ?_)
   | (with_reducible refine LeO.bind ?_ (fun _ => ?_))
   | exact ih0 _ _ _ _ _ _ _
   | exact ih1 _ _ _ _ _ _ _ _
   | exact ih2 _ _ _ _ _ _ _ _ _ _ _
   | exact impl_RangeOk.mono _ _
   | exact impl_ReadVersion.mono _ _
   | exact impl_compareTexts.mono _ _ _
   | exact LeO.none _
   | refine LeO.ite ?_ ?_
   | refine LeO.bind ?_ (fun _ => ?_)
theorem impl_In.zl1 {P : Prop} (h : P := by
 go_wp2_with (first | ((with_reducible refine gate_callee (f := 31) rfl ?_); refine goesL_ (some 54) rfl rfl Tryz.func31 (by kernel_rfl) rfl #[.string ((rd_T55 l1 x25_2).f0)] rfl zb1 ?_; (with_reducible refine (impl_ReadVersion.calls kj15 ((rd_T55 l1 x25_2).f0) t336 t337 t338 t339 t342 _ ?side1 ?side2 ?side3 A45.out).mono ?_); (case side1 => exact Glob.below HGE.out zb2); (case side2 => exact Glob.below HGM.out zb2); (case side3 => exact Glob.below HGT.out zb2); rintro e w49 ⟨v340, rfl, ho0, hb⟩; refine ⟨_, rfl, ?_⟩; have n0_ := Aside0.mk (Kd.R_elder' (by (with_reducible repeat (first | apply Kd.R_alloc | apply Kd.R_drewN | apply Kd.R_drew)); exact HO_330003.out) (Kd.R_base ho0) hb); have n1_ := Aside0.mk (Kd.R_lower (Kd.R_new' ho0 (Kd.R_lt (by (with_reducible repeat (first | apply Kd.R_alloc | apply Kd.R_drewN | apply Kd.R_drew)); exact HO_330003.out))) (below_size zb2)); have n2_ := Aside0.mk (blk_below (g := gb329) (o := .cells #[.int .i64 t322, .int .i64 t323, .int .i64 t324, .slice Ao8 t325.length co8] 50 (0, 0)) (by (with_reducible repeat (first | refine bN_ ?_ _ | refine bD_ ?_ | refine bA_ ?_ _)); exact BK329.out) hb); have n3_ := Aside0.mk (blk_below (g := gb332) (o := .cells #[.string ((rd_T55 l1 x25_2).f0), .string ((rd_T55 l1 x25_2).f1)] 55 (0, 0)) (by (with_reducible repeat (first | refine bN_ ?_ _ | refine bD_ ?_ | refine bA_ ?_ _)); exact BK332.out) hb); have n4_ := Aside0.mk (below_step zb2 hb); clear HO_330003; clear BK329; clear BK332; clear HB; have HO_330003 := n0_; have HO341 := n1_; have BK329 := n2_; have BK332 := n3_; have HB := n4_; clear n0_ n1_ n2_ n3_ n4_; (try clear hb); (try clear hb2); (try clear hk); (try clear hi); (try clear ho0)) | ((with_reducible refine gate_dst (N := 9) rfl ?_); refine box_event ?hg (N := 9) ?hd (cs := #[.int .i64 0, .int .i64 0, .int .i64 0, .slice none 0 0]) (t := 50) ?hr ?_; (case hd => rfl); (case hg => rfl); (case hr => first | (go_simp; done) | (go_simp; rfl)); intro gb343 hg w50 hbox hb; have n0_ := Aside0.mk (Kd.R_below (by (with_reducible repeat (first | apply Kd.R_alloc | apply Kd.R_drewN | apply Kd.R_drew)); exact HO_330003.out) hb); have n1_ := Aside0.mk (Kd.R_below (by (with_reducible repeat (first | apply Kd.R_alloc | apply Kd.R_drewN | apply Kd.R_drew)); exact HO341.out) hb); have n2_ := Aside0.mk (blk_below (g := gb329) (o := .cells #[.int .i64 t322, .int .i64 t323, .int .i64 t324, .slice Ao8 t325.length co8] 50 (0, 0)) (by (with_reducible repeat (first | refine bN_ ?_ _ | refine bD_ ?_ | refine bA_ ?_ _)); exact BK329.out) hb); have n3_ := Aside0.mk (blk_below (g := gb332) (o := .cells #[.string ((rd_T55 l1 x25_2).f0), .string ((rd_T55 l1 x25_2).f1)] 55 (0, 0)) (by (with_reducible repeat (first | refine bN_ ?_ _ | refine bD_ ?_ | refine bA_ ?_ _)); exact BK332.out) hb); have n4_ := Aside0.mk (below_step zb2 hb); have n5_ := Aside0.mk (hbox); have n6_ := Aside0.mk ((by rw [hg]; exact (below_size zb2) : w.heap.size ≤ gb343)); have n7_ := Aside0.mk ((by rw [hg]; exact (below_size zb2) : w.heap.size ≤ gb343)); have n8_ := Aside0.mk ((by rw [hg]; exact Nat.ne_of_lt (blk_lt (g := gb329) (o := .cells #[.int .i64 t322, .int .i64 t323, .int .i64 t324, .slice Ao8 t325.length co8] 50 (0, 0)) (by (with_reducible repeat (first | refine bN_ ?_ _ | refine bD_ ?_ | refine bA_ ?_ _)); exact BK329.out)) : gb329 ≠ gb343)); have n9_ := Aside0.mk ((by rw [hg]; exact Nat.ne_of_gt (blk_lt (g := gb329) (o := .cells #[.int .i64 t322, .int .i64 t323, .int .i64 t324, .slice Ao8 t325.length co8] 50 (0, 0)) (by (with_reducible repeat (first | refine bN_ ?_ _ | refine bD_ ?_ | refine bA_ ?_ _)); exact BK329.out)) : gb343 ≠ gb329)); have n10_ := Aside0.mk ((by rw [hg]; exact Nat.ne_of_lt (blk_lt (g := gb332) (o := .cells #[.string ((rd_T55 l1 x25_2).f0), .string ((rd_T55 l1 x25_2).f1)] 55 (0, 0)) (by (with_reducible repeat (first | refine bN_ ?_ _ | refine bD_ ?_ | refine bA_ ?_ _)); exact BK332.out)) : gb332 ≠ gb343)); have n11_ := Aside0.mk ((by rw [hg]; exact Nat.ne_of_gt (blk_lt (g := gb332) (o := .cells #[.string ((rd_T55 l1 x25_2).f0), .string ((rd_T55 l1 x25_2).f1)] 55 (0, 0)) (by (with_reducible repeat (first | refine bN_ ?_ _ | refine bD_ ?_ | refine bA_ ?_ _)); exact BK332.out)) : gb343 ≠ gb332)); clear HO_330003; clear HO341; clear BK329; clear BK332; clear HB; have HO_330003 := n0_; have HO341 := n1_; have BK329 := n2_; have BK332 := n3_; have HB := n4_; have BK343 := n5_; have GW343 := n6_; have GE343 := n7_; have NB329_343 := n8_; have NB343_329 := n9_; have NB332_343 := n10_; have NB343_332 := n11_; clear n0_ n1_ n2_ n3_ n4_ n5_ n6_ n7_ n8_ n9_ n10_ n11_; clear hb hbox hg; have hnb51 := NB343_329.out; have hnc51 := NB329_343.out; have hnb52 := NB343_332.out; have hnc52 := NB332_343.out; have hcz53_0 : w50.cell? ⟨gb343, 0, none⟩ = some (.int .i64 0) := (blk_cell BK343.out 0).trans rfl; have hcz53_1 : w50.cell? ⟨gb343, 1, none⟩ = some (.int .i64 0) := (blk_cell BK343.out 1).trans rfl; have hcz53_2 : w50.cell? ⟨gb343, 2, none⟩ = some (.int .i64 0) := (blk_cell BK343.out 2).trans rfl; have hcz53_3 : w50.cell? ⟨gb343, 3, none⟩ = some (.slice none 0 0) := (blk_cell BK343.out 3).trans rfl; have hfz53_0 := blk_frozen BK343.out 0; have hfz53_1 := blk_frozen BK343.out 1; have hfz53_2 := blk_frozen BK343.out 2; have hfz53_3 := blk_frozen BK343.out 3; obtain ⟨Ao54, co54, eo54⟩ := Kd.R_slice HO341.out; subst eo54; have hcz55_0 : w50.cell? ⟨gb329, 0, none⟩ = some (.int .i64 t322) := (blk_cell BK329.out 0).trans rfl; have hcz55_1 : w50.cell? ⟨gb329, 1, none⟩ = some (.int .i64 t323) := (blk_cell BK329.out 1).trans rfl; have hcz55_2 : w50.cell? ⟨gb329, 2, none⟩ = some (.int .i64 t324) := (blk_cell BK329.out 2).trans rfl; have hcz55_3 : w50.cell? ⟨gb329, 3, none⟩ = some (.slice Ao8 t325.length co8) := (blk_cell BK329.out 3).trans rfl; have hfz55_0 := blk_frozen BK329.out 0; have hfz55_1 := blk_frozen BK329.out 1; have hfz55_2 := blk_frozen BK329.out 2; have hfz55_3 := blk_frozen BK329.out 3))
 go_ret
 exact ⟨zb6, by repeat (first | (with_reducible first | exact HB.out | apply below_alloc | apply pw_below_drewN | apply below_drew1 | refine below_set ?_ GE329.out | refine below_set ?_ GE332.out | refine below_set ?_ GE343.out) | exact HB.out)⟩) : P := h
set_option maxHeartbeats 8000000 in
set_option maxRecDepth 100000 in
theorem impl_In.calls (k : Nat) (a0 : ByteArray) (A1 : Option Addr) (c1 : Nat) (l1 : List (S55)) (r : Bool) (w : World) (hr1 : Kd.C k55 w A1 l1.length l1) (hc1 : l1.length ≤ c1) (hGE : Glob FactE w) (hGM : Glob FactM w) (hGT : Glob FactT w) (h : impl_In.f k a0 l1 = some r) :
  Calls Tryz.prog 10 #[.string a0, .slice A1 l1.length c1] w fun e w' => e = .returned (.bool r) ∧ Below w.heap.size w w' := by
 have hu50 := Tryz.underlying50
 have hu55 := Tryz.underlying55
 have HR1 := Aside0.mk hr1
 have HC1 := Aside0.mk hc1
 clear hr1 hc1
 have HB := Aside0.mk (Below.refl w.heap.size w)
 have HGE := Aside0.mk hGE
 clear hGE
 have HGM := Aside0.mk hGM
 clear hGM
 have HGT := Aside0.mk hGT
 clear hGT
 have H : ((impl_ReadVersion.f k a0).bind fun bt322 => (if bt322.2.2.2.2 = true then ((impl_RangeOk.f k l1).bind fun t330 => (impl_In.j0 k a0 l1 (!t330) bt322.1 bt322.2.1 bt322.2.2.1 bt322.2.2.2.1)) else (impl_In.j0 k a0 l1 true bt322.1 bt322.2.1 bt322.2.2.1 bt322.2.2.2.1))) = some r := h
 clear h
 replace H := Option.bind_eq_some_iff.mp H
 obtain ⟨⟨t322, t323, t324, t325, t328⟩, A30, H⟩ := H
 replace H : (if t328 = true then ((impl_RangeOk.f k l1).bind fun t330 => (impl_In.j0 k a0 l1 (!t330) t322 t323 t324 t325)) else (impl_In.j0 k a0 l1 true t322 t323 t324 t325)) = some r := H
 have A3 := Aside0.mk A30
 clear A30
 have HC4 := Aside0.mk H
 clear H
 go_enter Tryz.func10, Tryz.ntmps10
 go_upto_region 2 with (first | ((with_reducible refine gate_callee (f := 31) rfl ?_); refine goesL_ (some 13) rfl rfl Tryz.func31 (by kernel_rfl) rfl #[.string a0] rfl zb1 ?_; (with_reducible refine (impl_ReadVersion.calls k a0 t322 t323 t324 t325 t328 _ ?side1 ?side2 ?side3 A3.out).mono ?_); (case side1 => exact Glob.below HGE.out zb0); (case side2 => exact Glob.below HGM.out zb0); (case side3 => exact Glob.below HGT.out zb0); rintro e w5 ⟨v326, rfl, ho0, hb⟩; refine ⟨_, rfl, ?_⟩; have n0_ := Aside0.mk (Kd.R_lower ho0 (below_size zb0)); have n1_ := Aside0.mk (below_step zb0 hb); clear HB; have HO327 := n0_; have HB := n1_; clear n0_ n1_; (try clear hb); (try clear hb2); (try clear hk); (try clear hi); (try clear ho0)) | ((with_reducible refine gate_dst (N := 5) rfl ?_); refine box_event ?hg (N := 5) ?hd (cs := #[.int .i64 0, .int .i64 0, .int .i64 0, .slice none 0 0]) (t := 50) ?hr ?_; (case hd => rfl); (case hg => rfl); (case hr => first | (go_simp; done) | (go_simp; rfl)); intro gb329 hg w6 hbox hb; have n0_ := Aside0.mk (Kd.R_below (by (with_reducible repeat (first | apply Kd.R_alloc | apply Kd.R_drewN | apply Kd.R_drew)); exact HO327.out) hb); have n1_ := Aside0.mk (below_step zb0 hb); have n2_ := Aside0.mk (hbox); have n3_ := Aside0.mk ((by rw [hg]; exact (below_size zb0) : w.heap.size ≤ gb329)); have n4_ := Aside0.mk ((by rw [hg]; exact (below_size zb0) : w.heap.size ≤ gb329)); clear HO327; clear HB; have HO327 := n0_; have HB := n1_; have BK329 := n2_; have GW329 := n3_; have GE329 := n4_; clear n0_ n1_ n2_ n3_ n4_; clear hb hbox hg; have hcz7_0 : w6.cell? ⟨gb329, 0, none⟩ = some (.int .i64 0) := (blk_cell BK329.out 0).trans rfl; have hcz7_1 : w6.cell? ⟨gb329, 1, none⟩ = some (.int .i64 0) := (blk_cell BK329.out 1).trans rfl; have hcz7_2 : w6.cell? ⟨gb329, 2, none⟩ = some (.int .i64 0) := (blk_cell BK329.out 2).trans rfl; have hcz7_3 : w6.cell? ⟨gb329, 3, none⟩ = some (.slice none 0 0) := (blk_cell BK329.out 3).trans rfl; have hfz7_0 := blk_frozen BK329.out 0; have hfz7_1 := blk_frozen BK329.out 1; have hfz7_2 := blk_frozen BK329.out 2; have hfz7_3 := blk_frozen BK329.out 3; obtain ⟨Ao8, co8, eo8⟩ := Kd.R_slice HO327.out; subst eo8))
 (try simp only [Act.put, List.setIfInBounds_toArray, List.set_cons_zero, List.set_cons_succ])
 go_cut [22] (fun v22 wc => ∃ (kq : Nat) (x22_3 : Bool), v22 = .bool x22_3 ∧ Aside0 (impl_In.j0 kq a0 l1 x22_3 t322 t323 t324 t325 = some r) ∧ Aside0 (kq ≤ k) ∧ Aside0 (Kd.R Kd.string 9 wc w.heap.size (fun _ => True) (.slice Ao8 t325.length co8) t325) ∧ Aside0 (wc.heap[gb329]? = some (.cells #[.int .i64 t322, .int .i64 t323, .int .i64 t324, (.slice Ao8 t325.length co8)] 50 (0, 0))) ∧ Aside0 (Below w.heap.size w wc))
 case first =>
  have H := HC4.out
  clear HC4
  by_cases c9 : t328 = true
  ·subst c9
   have H1 : ((impl_RangeOk.f k l1).bind fun t330 => (impl_In.j0 k a0 l1 (!t330) t322 t323 t324 t325)) = some r := by rw [if_pos rfl] at H; exact H
   clear H
   have H := H1
   clear H1
   replace H := Option.bind_eq_some_iff.mp H
   obtain ⟨t330, A100, H⟩ := H
   replace H : (impl_In.j0 k a0 l1 (!t330) t322 t323 t324 t325) = some r := H
   have A10 := Aside0.mk A100
   clear A100
   have H' := Aside0.mk H
   clear H
   go_wp2_with (first | (go_at_call 32; (with_reducible refine (impl_RangeOk.calls k _ _ l1 t330 _ ?side1 ?side2 ?side3 ?side4 ?side5 A10.out).mono ?_); (case side1 => exact Kd.C_below HR1.out (by repeat (first | (with_reducible first | exact HB.out | apply below_alloc | apply pw_below_drewN | apply below_drew1 | refine below_set ?_ GE329.out) | exact HB.out))); (case side2 => exact HC1.out); (case side3 => exact Glob.below HGE.out (by repeat (first | (with_reducible first | exact HB.out | apply below_alloc | apply pw_below_drewN | apply below_drew1 | refine below_set ?_ GE329.out) | exact HB.out))); (case side4 => exact Glob.below HGM.out (by repeat (first | (with_reducible first | exact HB.out | apply below_alloc | apply pw_below_drewN | apply below_drew1 | refine below_set ?_ GE329.out) | exact HB.out))); (case side5 => exact Glob.below HGT.out (by repeat (first | (with_reducible first | exact HB.out | apply below_alloc | apply pw_below_drewN | apply below_drew1 | refine below_set ?_ GE329.out) | exact HB.out))); rintro e w11 ⟨rfl, hb⟩; have n0_ := Aside0.mk (Kd.R_below (by (with_reducible repeat (first | apply Kd.R_alloc | apply Kd.R_drewN | apply Kd.R_drew)); exact (Kd.R_mono (Kd.R_far (p := ⟨gb329, 3, none⟩) (Kd.R_far (p := ⟨gb329, 2, none⟩) (Kd.R_far (p := ⟨gb329, 1, none⟩) (Kd.R_far (p := ⟨gb329, 0, none⟩) (Kd.R_types HO327.out BK329.out (by decide)) (fun _ hk => hk.2) (.int .i64 t322)) (fun _ hk => hk.2) (.int .i64 t323)) (fun _ hk => hk.2) (.int .i64 t324)) (fun _ hk => hk.2) (.slice Ao8 t325.length co8)) (fun _ h_ => h_.1))) hb); have n1_ := Aside0.mk (blk_below (g := gb329) (o := .cells #[.int .i64 t322, .int .i64 t323, .int .i64 t324, .slice Ao8 t325.length co8] 50 (0, 0)) (by (with_reducible repeat (first | refine bN_ ?_ _ | refine bD_ ?_ | refine bA_ ?_ _)); refine blk_put (cs := #[.int .i64 t322, .int .i64 t323, .int .i64 t324, .slice none 0 0]) ?_ 3 _ rfl; (with_reducible repeat (first | refine bN_ ?_ _ | refine bD_ ?_ | refine bA_ ?_ _)); refine blk_put (cs := #[.int .i64 t322, .int .i64 t323, .int .i64 0, .slice none 0 0]) ?_ 2 _ rfl; (with_reducible repeat (first | refine bN_ ?_ _ | refine bD_ ?_ | refine bA_ ?_ _)); refine blk_put (cs := #[.int .i64 t322, .int .i64 0, .int .i64 0, .slice none 0 0]) ?_ 1 _ rfl; (with_reducible repeat (first | refine bN_ ?_ _ | refine bD_ ?_ | refine bA_ ?_ _)); refine blk_put (cs := #[.int .i64 0, .int .i64 0, .int .i64 0, .slice none 0 0]) ?_ 0 _ rfl; (with_reducible repeat (first | refine bN_ ?_ _ | refine bD_ ?_ | refine bA_ ?_ _)); exact BK329.out) hb); have n2_ := Aside0.mk (below_step (by repeat (first | (with_reducible first | exact HB.out | apply below_alloc | apply pw_below_drewN | apply below_drew1 | refine below_set ?_ GE329.out) | exact HB.out)) hb); clear HO327; clear BK329; clear HB; have HO327 := n0_; have BK329 := n1_; have HB := n2_; clear n0_ n1_ n2_; (try clear hb); (try clear hb2); (try clear hk); (try clear hi)))
   go_meet
   case rel => exact ⟨_, (!t330), zb5, H', ⟨by first | omega | exact Nat.le_refl _⟩, ⟨by (with_reducible repeat (first | apply Kd.R_alloc | apply Kd.R_drewN | apply Kd.R_drew)); exact HO327.out⟩, ⟨by (with_reducible repeat (first | refine bN_ ?_ _ | refine bD_ ?_ | refine bA_ ?_ _)); exact BK329.out⟩, ⟨by repeat (first | (with_reducible first | exact HB.out | apply below_alloc | apply pw_below_drewN | apply below_drew1 | refine below_set ?_ GE329.out) | exact HB.out)⟩⟩
  ·replace c9 := Bool.eq_false_iff.mpr c9
   subst c9
   have H1 : (impl_In.j0 k a0 l1 true t322 t323 t324 t325) = some r := by rw [if_neg (show ¬ (false = true) by decide)] at H; exact H
   clear H
   have H := H1
   clear H1
   have H' := Aside0.mk H
   clear H
   go_wp2
   go_meet
   case rel => exact ⟨_, (true), zb5, H', ⟨by first | omega | exact Nat.le_refl _⟩, ⟨by (with_reducible repeat (first | apply Kd.R_alloc | apply Kd.R_drewN | apply Kd.R_drew)); exact Kd.R_mono (Kd.R_far (p := ⟨gb329, 3, none⟩) (Kd.R_far (p := ⟨gb329, 2, none⟩) (Kd.R_far (p := ⟨gb329, 1, none⟩) (Kd.R_far (p := ⟨gb329, 0, none⟩) (Kd.R_types HO327.out BK329.out (by decide)) (fun _ hk => hk.2) (.int .i64 t322)) (fun _ hk => hk.2) (.int .i64 t323)) (fun _ hk => hk.2) (.int .i64 t324)) (fun _ hk => hk.2) (.slice Ao8 t325.length co8)) (fun _ hk => trivial)⟩, ⟨by (with_reducible repeat (first | refine bN_ ?_ _ | refine bD_ ?_ | refine bA_ ?_ _)); refine blk_put (cs := #[.int .i64 t322, .int .i64 t323, .int .i64 t324, .slice none 0 0]) ?_ 3 _ rfl; (with_reducible repeat (first | refine bN_ ?_ _ | refine bD_ ?_ | refine bA_ ?_ _)); refine blk_put (cs := #[.int .i64 t322, .int .i64 t323, .int .i64 0, .slice none 0 0]) ?_ 2 _ rfl; (with_reducible repeat (first | refine bN_ ?_ _ | refine bD_ ?_ | refine bA_ ?_ _)); refine blk_put (cs := #[.int .i64 t322, .int .i64 0, .int .i64 0, .slice none 0 0]) ?_ 1 _ rfl; (with_reducible repeat (first | refine bN_ ?_ _ | refine bD_ ?_ | refine bA_ ?_ _)); refine blk_put (cs := #[.int .i64 0, .int .i64 0, .int .i64 0, .slice none 0 0]) ?_ 0 _ rfl; (with_reducible repeat (first | refine bN_ ?_ _ | refine bD_ ?_ | refine bA_ ?_ _)); exact BK329.out⟩, ⟨by repeat (first | (with_reducible first | exact HB.out | apply below_alloc | apply pw_below_drewN | apply below_drew1 | refine below_set ?_ GE329.out) | exact HB.out)⟩⟩
 case rest =>
  clear HC4
  try clear c1
  try clear p2
  try clear c3
  try clear c9
  try clear c10
  try clear hcz7_0
  try clear hcz7_1
  try clear hcz7_2
  try clear hcz7_3
  try clear hfz7_0
  try clear hfz7_1
  try clear hfz7_2
  try clear hfz7_3
  obtain ⟨kq, x22_3, rfl, HA, HJ3, HO_330003, BK329, HB⟩ := hcut
  cases kq with
  | zero => exact absurd HA.out (by simp [impl_In.j0])
  | succ kj3 =>
   have H := HA.out
   clear HA
   simp only [impl_In.j0] at H
   by_cases c12 : x22_3 = true
   ·subst c12
    have H1 : (some false) = some r := by rw [if_pos rfl] at H; exact H
    clear H
    have H := H1
    clear H1
    obtain rfl := Option.some.inj H
    go_wp2
    go_ret
    exact ⟨zb6, by repeat (first | (with_reducible first | exact HB.out | apply below_alloc | apply pw_below_drewN | apply below_drew1 | refine below_set ?_ GE329.out) | exact HB.out)⟩
   ·replace c12 := Bool.eq_false_iff.mpr c12
    subst c12
    have H1 : (impl_In.l0 kj3 a0 l1 (l1.length : Int) 0 t322 t323 t324 t325) = some r := by rw [if_neg (show ¬ (false = true) by decide)] at H; exact H
    clear H
    have H := H1
    clear H1
    have H' := Aside0.mk H
    clear H
    go_wp2
    go_loopg [25] kj3 (fun kq v25 w' => ∃ (x25_2 : Int), v25 = .int .i64 x25_2 ∧ Aside0 (impl_In.l0 kq a0 l1 (l1.length : Int) x25_2 t322 t323 t324 t325 = some r) ∧ Aside0 (kq ≤ kj3) ∧ Aside0 (Kd.R Kd.string 9 w' w.heap.size (fun _ => True) (.slice Ao8 t325.length co8) t325) ∧ Aside0 (w'.heap[gb329]? = some (.cells #[.int .i64 t322, .int .i64 t323, .int .i64 t324, (.slice Ao8 t325.length co8)] 50 (0, 0))) ∧ Aside0 (Below w.heap.size w w'))
    case atStart => exact ⟨(0), zb5, H', ⟨Nat.le_refl _⟩, ⟨by (with_reducible repeat (first | apply Kd.R_alloc | apply Kd.R_drewN | apply Kd.R_drew)); exact HO_330003.out⟩, ⟨by (with_reducible repeat (first | refine bN_ ?_ _ | refine bD_ ?_ | refine bA_ ?_ _)); exact BK329.out⟩, ⟨by repeat (first | (with_reducible first | exact HB.out | apply below_alloc | apply pw_below_drewN | apply below_drew1 | refine below_set ?_ GE329.out) | exact HB.out)⟩⟩
    case round =>
     clear H'
     try clear c1
     try clear p2
     try clear c3
     try clear c9
     try clear c10
     try clear c12
     try clear hcz7_0
     try clear hcz7_1
     try clear hcz7_2
     try clear hcz7_3
     try clear hfz7_0
     try clear hfz7_1
     try clear hfz7_2
     try clear hfz7_3
     try clear p2
     obtain ⟨x25_2, rfl, HA, HK2, HO_330003, BK329, HB⟩ := hrel
     cases gk with
     | zero => exact absurd HA.out (by simp [impl_In.l0])
     | succ k2 =>
      have H := HA.out
      clear HA
      simp only [impl_In.l0] at H
      by_cases c13 : x25_2 < (l1.length : Int)
      ·rw [if_pos c13] at H
       have c13b0 : decide (x25_2 < (l1.length : Int)) = true := decide_eq_true c13
       clear c13
       by_cases c14 : 0 ≤ x25_2
       ·rw [if_pos c14] at H
        have c14b0 : decide (0 ≤ x25_2) = true := decide_eq_true c14
        clear c14
        by_cases c15 : x25_2 < (l1.length : Int)
        ·rw [if_pos c15] at H
         have c15b0 : decide (x25_2 < (l1.length : Int)) = true := decide_eq_true c15
         clear c15
         have HC16 := Aside0.mk H
         clear H
         have p331 : 0 ≤ (x25_2 : Int) := of_decide_eq_true zb4
         have q331 : x25_2 < (l1.length : Int) := of_decide_eq_true zb4
         obtain ⟨ad331, e331, hx331_0, hx331_1⟩ := at_T55 HR1.out x25_2 p331 q331
         cases e331
         replace hx331_0 := (HB.out.cell (World.block_lt_of_cell? w _ hx331_0)).trans hx331_0
         replace hx331_1 := (HB.out.cell (World.block_lt_of_cell? w _ hx331_1)).trans hx331_1
         replace p331 := eq_true p331
         replace q331 := eq_true q331
         go_upto_region 7 with (first | ((with_reducible refine gate_dst (N := 8) rfl ?_); refine box_event ?hg (N := 8) ?hd (cs := #[.string (⟨#[]⟩ : ByteArray), .string (⟨#[]⟩ : ByteArray)]) (t := 55) ?hr ?_; (case hd => rfl); (case hg => rfl); (case hr => first | (go_simp; done) | (go_simp; rfl)); intro gb332 hg w17 hbox hb; have n0_ := Aside0.mk (Kd.R_below (by (with_reducible repeat (first | apply Kd.R_alloc | apply Kd.R_drewN | apply Kd.R_drew)); exact HO_330003.out) hb); have n1_ := Aside0.mk (blk_below (g := gb329) (o := .cells #[.int .i64 t322, .int .i64 t323, .int .i64 t324, .slice Ao8 t325.length co8] 50 (0, 0)) (by (with_reducible repeat (first | refine bN_ ?_ _ | refine bD_ ?_ | refine bA_ ?_ _)); exact BK329.out) hb); have n2_ := Aside0.mk (below_step (by repeat (first | (with_reducible first | exact HB.out | apply below_alloc | apply pw_below_drewN | apply below_drew1 | refine below_set ?_ GE329.out) | exact HB.out)) hb); have n3_ := Aside0.mk (hbox); have n4_ := Aside0.mk ((by rw [hg]; exact (below_size (by repeat (first | (with_reducible first | exact HB.out | apply below_alloc | apply pw_below_drewN | apply below_drew1 | refine below_set ?_ GE329.out) | exact HB.out))) : w.heap.size ≤ gb332)); have n5_ := Aside0.mk ((by rw [hg]; exact (below_size (by repeat (first | (with_reducible first | exact HB.out | apply below_alloc | apply pw_below_drewN | apply below_drew1 | refine below_set ?_ GE329.out) | exact HB.out))) : w.heap.size ≤ gb332)); have n6_ := Aside0.mk ((by rw [hg]; exact Nat.ne_of_lt (blk_lt (g := gb329) (o := .cells #[.int .i64 t322, .int .i64 t323, .int .i64 t324, .slice Ao8 t325.length co8] 50 (0, 0)) (by (with_reducible repeat (first | refine bN_ ?_ _ | refine bD_ ?_ | refine bA_ ?_ _)); exact BK329.out)) : gb329 ≠ gb332)); have n7_ := Aside0.mk ((by rw [hg]; exact Nat.ne_of_gt (blk_lt (g := gb329) (o := .cells #[.int .i64 t322, .int .i64 t323, .int .i64 t324, .slice Ao8 t325.length co8] 50 (0, 0)) (by (with_reducible repeat (first | refine bN_ ?_ _ | refine bD_ ?_ | refine bA_ ?_ _)); exact BK329.out)) : gb332 ≠ gb329)); clear HO_330003; clear BK329; clear HB; have HO_330003 := n0_; have BK329 := n1_; have HB := n2_; have BK332 := n3_; have GW332 := n4_; have GE332 := n5_; have NB329_332 := n6_; have NB332_329 := n7_; clear n0_ n1_ n2_ n3_ n4_ n5_ n6_ n7_; clear hb hbox hg; have hnb18 := NB332_329.out; have hnc18 := NB329_332.out; have hcz19_0 : w17.cell? ⟨gb332, 0, none⟩ = some (.string (⟨#[]⟩ : ByteArray)) := (blk_cell BK332.out 0).trans rfl; have hcz19_1 : w17.cell? ⟨gb332, 1, none⟩ = some (.string (⟨#[]⟩ : ByteArray)) := (blk_cell BK332.out 1).trans rfl; have hfz19_0 := blk_frozen BK332.out 0; have hfz19_1 := blk_frozen BK332.out 1))
         (try simp only [Act.put, List.setIfInBounds_toArray, List.set_cons_zero, List.set_cons_succ])
         go_cut [50] (fun v50 wc => ∃ (kq : Nat) (x50_15 : Bool), v50 = .bool x50_15 ∧ Aside0 (impl_In.j2 kq a0 l1 (l1.length : Int) x25_2 x50_15 t322 t323 t324 t325 ((rd_T55 l1 x25_2).f0) ((rd_T55 l1 x25_2).f1) = some r) ∧ Aside0 (kq ≤ k2) ∧ Aside0 (Kd.R Kd.string 9 wc w.heap.size (fun _ => True) (.slice Ao8 t325.length co8) t325) ∧ Aside0 (wc.heap[gb329]? = some (.cells #[.int .i64 t322, .int .i64 t323, .int .i64 t324, (.slice Ao8 t325.length co8)] 50 (0, 0))) ∧ Aside0 (wc.heap[gb332]? = some (.cells #[.string ((rd_T55 l1 x25_2).f0), .string ((rd_T55 l1 x25_2).f1)] 55 (0, 0))) ∧ Aside0 (Below w.heap.size w wc))
         case first =>
          have H := HC16.out
          clear HC16
          by_cases c20 : ((rd_T55 l1 x25_2).f0).toList = ([] : List UInt8)
          ·rw [if_pos c20] at H
           have c20b0 : (((rd_T55 l1 x25_2).f0).toList == ([] : List UInt8)) = true := beq_iff_eq.mpr c20
           have c20b1 : (((rd_T55 l1 x25_2).f0).toList != ([] : List UInt8)) = false := bne_eq_false_iff_eq.mpr c20
           clear c20
           (first | rw [c20b0] | (simp only [i64_w, i32_w]; rw [c20b0]) | skip)
           by_cases c21 : ((rd_T55 l1 x25_2).f1).toList = ([] : List UInt8)
           ·rw [if_pos c21] at H
            have c21b0 : (((rd_T55 l1 x25_2).f1).toList == ([] : List UInt8)) = true := beq_iff_eq.mpr c21
            have c21b1 : (((rd_T55 l1 x25_2).f1).toList != ([] : List UInt8)) = false := bne_eq_false_iff_eq.mpr c21
            clear c21
            have H' := Aside0.mk H
            clear H
            have hnb22 := NB332_329.out
            have hnc22 := NB329_332.out
            have hcz23_0 : w17.cell? ⟨gb332, 0, none⟩ = some (.string (⟨#[]⟩ : ByteArray)) := (blk_cell BK332.out 0).trans rfl
            have hcz23_1 : w17.cell? ⟨gb332, 1, none⟩ = some (.string (⟨#[]⟩ : ByteArray)) := (blk_cell BK332.out 1).trans rfl
            have hfz23_0 := blk_frozen BK332.out 0
            have hfz23_1 := blk_frozen BK332.out 1
            go_wp2
            go_meet
            case rel => exact ⟨_, (false), zb5, H', ⟨by have := HJ3.out; have := HK2.out; first | omega | exact Nat.le_refl _⟩, ⟨by (with_reducible repeat (first | apply Kd.R_alloc | apply Kd.R_drewN | apply Kd.R_drew)); exact Kd.R_mono (Kd.R_far (p := ⟨gb332, 1, none⟩) (Kd.R_far (p := ⟨gb332, 0, none⟩) (Kd.R_types HO_330003.out BK332.out (by decide)) (fun _ hk => hk.2) (.string ((rd_T55 l1 x25_2).f0))) (fun _ hk => hk.2) (.string ((rd_T55 l1 x25_2).f1))) (fun _ hk => trivial)⟩, ⟨by (with_reducible repeat (first | refine bN_ ?_ _ | refine bD_ ?_ | refine bA_ ?_ _)); refine blk_far ?_ NB329_332.out _; (with_reducible repeat (first | refine bN_ ?_ _ | refine bD_ ?_ | refine bA_ ?_ _)); refine blk_far ?_ NB329_332.out _; (with_reducible repeat (first | refine bN_ ?_ _ | refine bD_ ?_ | refine bA_ ?_ _)); exact BK329.out⟩, ⟨by (with_reducible repeat (first | refine bN_ ?_ _ | refine bD_ ?_ | refine bA_ ?_ _)); refine blk_put (cs := #[.string ((rd_T55 l1 x25_2).f0), .string (⟨#[]⟩ : ByteArray)]) ?_ 1 _ rfl; (with_reducible repeat (first | refine bN_ ?_ _ | refine bD_ ?_ | refine bA_ ?_ _)); refine blk_put (cs := #[.string (⟨#[]⟩ : ByteArray), .string (⟨#[]⟩ : ByteArray)]) ?_ 0 _ rfl; (with_reducible repeat (first | refine bN_ ?_ _ | refine bD_ ?_ | refine bA_ ?_ _)); exact BK332.out⟩, ⟨by repeat (first | (with_reducible first | exact HB.out | apply below_alloc | apply pw_below_drewN | apply below_drew1 | refine below_set ?_ GE329.out | refine below_set ?_ GE332.out) | exact HB.out)⟩⟩
           ·rw [if_neg c21] at H
            have c21b0 : (((rd_T55 l1 x25_2).f1).toList == ([] : List UInt8)) = false := beq_eq_false_iff_ne.mpr c21
            have c21b1 : (((rd_T55 l1 x25_2).f1).toList != ([] : List UInt8)) = true := bne_iff_ne.mpr c21
            replace H := Option.bind_eq_some_iff.mp H
            obtain ⟨t333, A240, H⟩ := H
            replace H : (impl_In.j2 k2 a0 l1 (l1.length : Int) x25_2 (decide (t333 ≥ 0)) t322 t323 t324 t325 ((rd_T55 l1 x25_2).f0) ((rd_T55 l1 x25_2).f1)) = some r := H
            have A24 := Aside0.mk A240
            clear A240
            have H' := Aside0.mk H
            clear H
            have hnb25 := NB332_329.out
            have hnc25 := NB329_332.out
            have hcz26_0 : w17.cell? ⟨gb332, 0, none⟩ = some (.string (⟨#[]⟩ : ByteArray)) := (blk_cell BK332.out 0).trans rfl
            have hcz26_1 : w17.cell? ⟨gb332, 1, none⟩ = some (.string (⟨#[]⟩ : ByteArray)) := (blk_cell BK332.out 1).trans rfl
            have hfz26_0 := blk_frozen BK332.out 0
            have hfz26_1 := blk_frozen BK332.out 1
            go_wp2_with (first | (go_at_call 33; (with_reducible refine (impl_compareTexts.calls k2 a0 ((rd_T55 l1 x25_2).f1) t333 _ ?side1 ?side2 ?side3 A24.out).mono ?_); (case side1 => exact Glob.below HGE.out zb2); (case side2 => exact Glob.below HGM.out zb2); (case side3 => exact Glob.below HGT.out zb2); rintro e w27 ⟨rfl, hb⟩; have n0_ := Aside0.mk (Kd.R_below (by (with_reducible repeat (first | apply Kd.R_alloc | apply Kd.R_drewN | apply Kd.R_drew)); exact (Kd.R_mono (Kd.R_far (p := ⟨gb332, 1, none⟩) (Kd.R_far (p := ⟨gb332, 0, none⟩) (Kd.R_types HO_330003.out BK332.out (by decide)) (fun _ hk => hk.2) (.string ((rd_T55 l1 x25_2).f0))) (fun _ hk => hk.2) (.string ((rd_T55 l1 x25_2).f1))) (fun _ h_ => h_.1))) hb); have n1_ := Aside0.mk (blk_below (g := gb329) (o := .cells #[.int .i64 t322, .int .i64 t323, .int .i64 t324, .slice Ao8 t325.length co8] 50 (0, 0)) (by (with_reducible repeat (first | refine bN_ ?_ _ | refine bD_ ?_ | refine bA_ ?_ _)); refine blk_far ?_ NB329_332.out _; (with_reducible repeat (first | refine bN_ ?_ _ | refine bD_ ?_ | refine bA_ ?_ _)); refine blk_far ?_ NB329_332.out _; (with_reducible repeat (first | refine bN_ ?_ _ | refine bD_ ?_ | refine bA_ ?_ _)); exact BK329.out) hb); have n2_ := Aside0.mk (blk_below (g := gb332) (o := .cells #[.string ((rd_T55 l1 x25_2).f0), .string ((rd_T55 l1 x25_2).f1)] 55 (0, 0)) (by (with_reducible repeat (first | refine bN_ ?_ _ | refine bD_ ?_ | refine bA_ ?_ _)); refine blk_put (cs := #[.string ((rd_T55 l1 x25_2).f0), .string (⟨#[]⟩ : ByteArray)]) ?_ 1 _ rfl; (with_reducible repeat (first | refine bN_ ?_ _ | refine bD_ ?_ | refine bA_ ?_ _)); refine blk_put (cs := #[.string (⟨#[]⟩ : ByteArray), .string (⟨#[]⟩ : ByteArray)]) ?_ 0 _ rfl; (with_reducible repeat (first | refine bN_ ?_ _ | refine bD_ ?_ | refine bA_ ?_ _)); exact BK332.out) hb); have n3_ := Aside0.mk (below_step zb2 hb); clear HO_330003; clear BK329; clear BK332; clear HB; have HO_330003 := n0_; have BK329 := n1_; have BK332 := n2_; have HB := n3_; clear n0_ n1_ n2_ n3_; (try clear hb); (try clear hb2); (try clear hk); (try clear hi)))
            go_meet
            case rel => exact ⟨_, (decide (t333 ≥ 0)), zb5, H', ⟨by have := HJ3.out; have := HK2.out; first | omega | exact Nat.le_refl _⟩, ⟨by (with_reducible repeat (first | apply Kd.R_alloc | apply Kd.R_drewN | apply Kd.R_drew)); exact HO_330003.out⟩, ⟨by (with_reducible repeat (first | refine bN_ ?_ _ | refine bD_ ?_ | refine bA_ ?_ _)); exact BK329.out⟩, ⟨by (with_reducible repeat (first | refine bN_ ?_ _ | refine bD_ ?_ | refine bA_ ?_ _)); exact BK332.out⟩, ⟨by repeat (first | (with_reducible first | exact HB.out | apply below_alloc | apply pw_below_drewN | apply below_drew1 | refine below_set ?_ GE329.out | refine below_set ?_ GE332.out) | exact HB.out)⟩⟩
          ·rw [if_neg c20] at H
           have c20b0 : (((rd_T55 l1 x25_2).f0).toList == ([] : List UInt8)) = false := beq_eq_false_iff_ne.mpr c20
           have c20b1 : (((rd_T55 l1 x25_2).f0).toList != ([] : List UInt8)) = true := bne_iff_ne.mpr c20
           (first | rw [c20b0] | (simp only [i64_w, i32_w]; rw [c20b0]) | skip)
           replace H := Option.bind_eq_some_iff.mp H
           obtain ⟨t334, A280, H⟩ := H
           replace H : (if t334 < 0 then (impl_In.j2 k2 a0 l1 (l1.length : Int) x25_2 true t322 t323 t324 t325 ((rd_T55 l1 x25_2).f0) ((rd_T55 l1 x25_2).f1)) else (if ((rd_T55 l1 x25_2).f1).toList = ([] : List UInt8) then (impl_In.j2 k2 a0 l1 (l1.length : Int) x25_2 false t322 t323 t324 t325 ((rd_T55 l1 x25_2).f0) ((rd_T55 l1 x25_2).f1)) else ((impl_compareTexts.f k2 a0 ((rd_T55 l1 x25_2).f1)).bind fun t335 => (impl_In.j2 k2 a0 l1 (l1.length : Int) x25_2 (decide (t335 ≥ 0)) t322 t323 t324 t325 ((rd_T55 l1 x25_2).f0) ((rd_T55 l1 x25_2).f1))))) = some r := H
           have A28 := Aside0.mk A280
           clear A280
           by_cases c29 : t334 < 0
           ·rw [if_pos c29] at H
            have c29b0 : decide (t334 < 0) = true := decide_eq_true c29
            clear c29
            have H' := Aside0.mk H
            clear H
            have hnb30 := NB332_329.out
            have hnc30 := NB329_332.out
            have hcz31_0 : w17.cell? ⟨gb332, 0, none⟩ = some (.string (⟨#[]⟩ : ByteArray)) := (blk_cell BK332.out 0).trans rfl
            have hcz31_1 : w17.cell? ⟨gb332, 1, none⟩ = some (.string (⟨#[]⟩ : ByteArray)) := (blk_cell BK332.out 1).trans rfl
            have hfz31_0 := blk_frozen BK332.out 0
            have hfz31_1 := blk_frozen BK332.out 1
            go_wp2_with (first | (go_at_call 33; (with_reducible refine (impl_compareTexts.calls k2 a0 ((rd_T55 l1 x25_2).f0) t334 _ ?side1 ?side2 ?side3 A28.out).mono ?_); (case side1 => exact Glob.below HGE.out zb2); (case side2 => exact Glob.below HGM.out zb2); (case side3 => exact Glob.below HGT.out zb2); rintro e w32 ⟨rfl, hb⟩; have n0_ := Aside0.mk (Kd.R_below (by (with_reducible repeat (first | apply Kd.R_alloc | apply Kd.R_drewN | apply Kd.R_drew)); exact (Kd.R_mono (Kd.R_far (p := ⟨gb332, 1, none⟩) (Kd.R_far (p := ⟨gb332, 0, none⟩) (Kd.R_types HO_330003.out BK332.out (by decide)) (fun _ hk => hk.2) (.string ((rd_T55 l1 x25_2).f0))) (fun _ hk => hk.2) (.string ((rd_T55 l1 x25_2).f1))) (fun _ h_ => h_.1))) hb); have n1_ := Aside0.mk (blk_below (g := gb329) (o := .cells #[.int .i64 t322, .int .i64 t323, .int .i64 t324, .slice Ao8 t325.length co8] 50 (0, 0)) (by (with_reducible repeat (first | refine bN_ ?_ _ | refine bD_ ?_ | refine bA_ ?_ _)); refine blk_far ?_ NB329_332.out _; (with_reducible repeat (first | refine bN_ ?_ _ | refine bD_ ?_ | refine bA_ ?_ _)); refine blk_far ?_ NB329_332.out _; (with_reducible repeat (first | refine bN_ ?_ _ | refine bD_ ?_ | refine bA_ ?_ _)); exact BK329.out) hb); have n2_ := Aside0.mk (blk_below (g := gb332) (o := .cells #[.string ((rd_T55 l1 x25_2).f0), .string ((rd_T55 l1 x25_2).f1)] 55 (0, 0)) (by (with_reducible repeat (first | refine bN_ ?_ _ | refine bD_ ?_ | refine bA_ ?_ _)); refine blk_put (cs := #[.string ((rd_T55 l1 x25_2).f0), .string (⟨#[]⟩ : ByteArray)]) ?_ 1 _ rfl; (with_reducible repeat (first | refine bN_ ?_ _ | refine bD_ ?_ | refine bA_ ?_ _)); refine blk_put (cs := #[.string (⟨#[]⟩ : ByteArray), .string (⟨#[]⟩ : ByteArray)]) ?_ 0 _ rfl; (with_reducible repeat (first | refine bN_ ?_ _ | refine bD_ ?_ | refine bA_ ?_ _)); exact BK332.out) hb); have n3_ := Aside0.mk (below_step zb2 hb); clear HO_330003; clear BK329; clear BK332; clear HB; have HO_330003 := n0_; have BK329 := n1_; have BK332 := n2_; have HB := n3_; clear n0_ n1_ n2_ n3_; (try clear hb); (try clear hb2); (try clear hk); (try clear hi)))
            go_meet
            case rel => exact ⟨_, (true), zb5, H', ⟨by have := HJ3.out; have := HK2.out; first | omega | exact Nat.le_refl _⟩, ⟨by (with_reducible repeat (first | apply Kd.R_alloc | apply Kd.R_drewN | apply Kd.R_drew)); exact HO_330003.out⟩, ⟨by (with_reducible repeat (first | refine bN_ ?_ _ | refine bD_ ?_ | refine bA_ ?_ _)); exact BK329.out⟩, ⟨by (with_reducible repeat (first | refine bN_ ?_ _ | refine bD_ ?_ | refine bA_ ?_ _)); exact BK332.out⟩, ⟨by repeat (first | (with_reducible first | exact HB.out | apply below_alloc | apply pw_below_drewN | apply below_drew1 | refine below_set ?_ GE329.out | refine below_set ?_ GE332.out) | exact HB.out)⟩⟩
           ·rw [if_neg c29] at H
            have c29b0 : decide (t334 < 0) = false := decide_eq_false c29
            clear c29
            by_cases c33 : ((rd_T55 l1 x25_2).f1).toList = ([] : List UInt8)
            ·rw [if_pos c33] at H
             have c33b0 : (((rd_T55 l1 x25_2).f1).toList == ([] : List UInt8)) = true := beq_iff_eq.mpr c33
             have c33b1 : (((rd_T55 l1 x25_2).f1).toList != ([] : List UInt8)) = false := bne_eq_false_iff_eq.mpr c33
             clear c33
             have H' := Aside0.mk H
             clear H
             have hnb34 := NB332_329.out
             have hnc34 := NB329_332.out
             have hcz35_0 : w17.cell? ⟨gb332, 0, none⟩ = some (.string (⟨#[]⟩ : ByteArray)) := (blk_cell BK332.out 0).trans rfl
             have hcz35_1 : w17.cell? ⟨gb332, 1, none⟩ = some (.string (⟨#[]⟩ : ByteArray)) := (blk_cell BK332.out 1).trans rfl
             have hfz35_0 := blk_frozen BK332.out 0
             have hfz35_1 := blk_frozen BK332.out 1
             go_wp2_with (first | (go_at_call 33; (with_reducible refine (impl_compareTexts.calls k2 a0 ((rd_T55 l1 x25_2).f0) t334 _ ?side1 ?side2 ?side3 A28.out).mono ?_); (case side1 => exact Glob.below HGE.out zb2); (case side2 => exact Glob.below HGM.out zb2); (case side3 => exact Glob.below HGT.out zb2); rintro e w36 ⟨rfl, hb⟩; have n0_ := Aside0.mk (Kd.R_below (by (with_reducible repeat (first | apply Kd.R_alloc | apply Kd.R_drewN | apply Kd.R_drew)); exact (Kd.R_mono (Kd.R_far (p := ⟨gb332, 1, none⟩) (Kd.R_far (p := ⟨gb332, 0, none⟩) (Kd.R_types HO_330003.out BK332.out (by decide)) (fun _ hk => hk.2) (.string ((rd_T55 l1 x25_2).f0))) (fun _ hk => hk.2) (.string ((rd_T55 l1 x25_2).f1))) (fun _ h_ => h_.1))) hb); have n1_ := Aside0.mk (blk_below (g := gb329) (o := .cells #[.int .i64 t322, .int .i64 t323, .int .i64 t324, .slice Ao8 t325.length co8] 50 (0, 0)) (by (with_reducible repeat (first | refine bN_ ?_ _ | refine bD_ ?_ | refine bA_ ?_ _)); refine blk_far ?_ NB329_332.out _; (with_reducible repeat (first | refine bN_ ?_ _ | refine bD_ ?_ | refine bA_ ?_ _)); refine blk_far ?_ NB329_332.out _; (with_reducible repeat (first | refine bN_ ?_ _ | refine bD_ ?_ | refine bA_ ?_ _)); exact BK329.out) hb); have n2_ := Aside0.mk (blk_below (g := gb332) (o := .cells #[.string ((rd_T55 l1 x25_2).f0), .string ((rd_T55 l1 x25_2).f1)] 55 (0, 0)) (by (with_reducible repeat (first | refine bN_ ?_ _ | refine bD_ ?_ | refine bA_ ?_ _)); refine blk_put (cs := #[.string ((rd_T55 l1 x25_2).f0), .string (⟨#[]⟩ : ByteArray)]) ?_ 1 _ rfl; (with_reducible repeat (first | refine bN_ ?_ _ | refine bD_ ?_ | refine bA_ ?_ _)); refine blk_put (cs := #[.string (⟨#[]⟩ : ByteArray), .string (⟨#[]⟩ : ByteArray)]) ?_ 0 _ rfl; (with_reducible repeat (first | refine bN_ ?_ _ | refine bD_ ?_ | refine bA_ ?_ _)); exact BK332.out) hb); have n3_ := Aside0.mk (below_step zb2 hb); clear HO_330003; clear BK329; clear BK332; clear HB; have HO_330003 := n0_; have BK329 := n1_; have BK332 := n2_; have HB := n3_; clear n0_ n1_ n2_ n3_; (try clear hb); (try clear hb2); (try clear hk); (try clear hi); have hcz37_0 : w36.cell? ⟨gb332, 0, none⟩ = some (.string ((rd_T55 l1 x25_2).f0)) := (blk_cell BK332.out 0).trans rfl; have hcz37_1 : w36.cell? ⟨gb332, 1, none⟩ = some (.string ((rd_T55 l1 x25_2).f1)) := (blk_cell BK332.out 1).trans rfl; have hfz37_0 := blk_frozen BK332.out 0; have hfz37_1 := blk_frozen BK332.out 1))
             go_meet
             case rel => exact ⟨_, (false), zb5, H', ⟨by have := HJ3.out; have := HK2.out; first | omega | exact Nat.le_refl _⟩, ⟨by (with_reducible repeat (first | apply Kd.R_alloc | apply Kd.R_drewN | apply Kd.R_drew)); exact HO_330003.out⟩, ⟨by (with_reducible repeat (first | refine bN_ ?_ _ | refine bD_ ?_ | refine bA_ ?_ _)); exact BK329.out⟩, ⟨by (with_reducible repeat (first | refine bN_ ?_ _ | refine bD_ ?_ | refine bA_ ?_ _)); exact BK332.out⟩, ⟨by repeat (first | (with_reducible first | exact HB.out | apply below_alloc | apply pw_below_drewN | apply below_drew1 | refine below_set ?_ GE329.out | refine below_set ?_ GE332.out) | exact HB.out)⟩⟩
            ·rw [if_neg c33] at H
             have c33b0 : (((rd_T55 l1 x25_2).f1).toList == ([] : List UInt8)) = false := beq_eq_false_iff_ne.mpr c33
             have c33b1 : (((rd_T55 l1 x25_2).f1).toList != ([] : List UInt8)) = true := bne_iff_ne.mpr c33
             replace H := Option.bind_eq_some_iff.mp H
             obtain ⟨t335, A380, H⟩ := H
             replace H : (impl_In.j2 k2 a0 l1 (l1.length : Int) x25_2 (decide (t335 ≥ 0)) t322 t323 t324 t325 ((rd_T55 l1 x25_2).f0) ((rd_T55 l1 x25_2).f1)) = some r := H
             have A38 := Aside0.mk A380
             clear A380
             have H' := Aside0.mk H
             clear H
             have hnb39 := NB332_329.out
             have hnc39 := NB329_332.out
             have hcz40_0 : w17.cell? ⟨gb332, 0, none⟩ = some (.string (⟨#[]⟩ : ByteArray)) := (blk_cell BK332.out 0).trans rfl
             have hcz40_1 : w17.cell? ⟨gb332, 1, none⟩ = some (.string (⟨#[]⟩ : ByteArray)) := (blk_cell BK332.out 1).trans rfl
             have hfz40_0 := blk_frozen BK332.out 0
             have hfz40_1 := blk_frozen BK332.out 1
             go_wp2_with (first | (go_at_call 33; (with_reducible refine (impl_compareTexts.calls k2 a0 ((rd_T55 l1 x25_2).f0) t334 _ ?side1 ?side2 ?side3 A28.out).mono ?_); (case side1 => exact Glob.below HGE.out zb2); (case side2 => exact Glob.below HGM.out zb2); (case side3 => exact Glob.below HGT.out zb2); rintro e w41 ⟨rfl, hb⟩; have n0_ := Aside0.mk (Kd.R_below (by (with_reducible repeat (first | apply Kd.R_alloc | apply Kd.R_drewN | apply Kd.R_drew)); exact (Kd.R_mono (Kd.R_far (p := ⟨gb332, 1, none⟩) (Kd.R_far (p := ⟨gb332, 0, none⟩) (Kd.R_types HO_330003.out BK332.out (by decide)) (fun _ hk => hk.2) (.string ((rd_T55 l1 x25_2).f0))) (fun _ hk => hk.2) (.string ((rd_T55 l1 x25_2).f1))) (fun _ h_ => h_.1))) hb); have n1_ := Aside0.mk (blk_below (g := gb329) (o := .cells #[.int .i64 t322, .int .i64 t323, .int .i64 t324, .slice Ao8 t325.length co8] 50 (0, 0)) (by (with_reducible repeat (first | refine bN_ ?_ _ | refine bD_ ?_ | refine bA_ ?_ _)); refine blk_far ?_ NB329_332.out _; (with_reducible repeat (first | refine bN_ ?_ _ | refine bD_ ?_ | refine bA_ ?_ _)); refine blk_far ?_ NB329_332.out _; (with_reducible repeat (first | refine bN_ ?_ _ | refine bD_ ?_ | refine bA_ ?_ _)); exact BK329.out) hb); have n2_ := Aside0.mk (blk_below (g := gb332) (o := .cells #[.string ((rd_T55 l1 x25_2).f0), .string ((rd_T55 l1 x25_2).f1)] 55 (0, 0)) (by (with_reducible repeat (first | refine bN_ ?_ _ | refine bD_ ?_ | refine bA_ ?_ _)); refine blk_put (cs := #[.string ((rd_T55 l1 x25_2).f0), .string (⟨#[]⟩ : ByteArray)]) ?_ 1 _ rfl; (with_reducible repeat (first | refine bN_ ?_ _ | refine bD_ ?_ | refine bA_ ?_ _)); refine blk_put (cs := #[.string (⟨#[]⟩ : ByteArray), .string (⟨#[]⟩ : ByteArray)]) ?_ 0 _ rfl; (with_reducible repeat (first | refine bN_ ?_ _ | refine bD_ ?_ | refine bA_ ?_ _)); exact BK332.out) hb); have n3_ := Aside0.mk (below_step zb2 hb); clear HO_330003; clear BK329; clear BK332; clear HB; have HO_330003 := n0_; have BK329 := n1_; have BK332 := n2_; have HB := n3_; clear n0_ n1_ n2_ n3_; (try clear hb); (try clear hb2); (try clear hk); (try clear hi); have hcz42_0 : w41.cell? ⟨gb332, 0, none⟩ = some (.string ((rd_T55 l1 x25_2).f0)) := (blk_cell BK332.out 0).trans rfl; have hcz42_1 : w41.cell? ⟨gb332, 1, none⟩ = some (.string ((rd_T55 l1 x25_2).f1)) := (blk_cell BK332.out 1).trans rfl; have hfz42_0 := blk_frozen BK332.out 0; have hfz42_1 := blk_frozen BK332.out 1) | (go_at_call 33; (with_reducible refine (impl_compareTexts.calls k2 a0 ((rd_T55 l1 x25_2).f1) t335 _ ?side1 ?side2 ?side3 A38.out).mono ?_); (case side1 => exact Glob.below HGE.out zb2); (case side2 => exact Glob.below HGM.out zb2); (case side3 => exact Glob.below HGT.out zb2); rintro e w43 ⟨rfl, hb⟩; have n0_ := Aside0.mk (Kd.R_below (by (with_reducible repeat (first | apply Kd.R_alloc | apply Kd.R_drewN | apply Kd.R_drew)); exact HO_330003.out) hb); have n1_ := Aside0.mk (blk_below (g := gb329) (o := .cells #[.int .i64 t322, .int .i64 t323, .int .i64 t324, .slice Ao8 t325.length co8] 50 (0, 0)) (by (with_reducible repeat (first | refine bN_ ?_ _ | refine bD_ ?_ | refine bA_ ?_ _)); exact BK329.out) hb); have n2_ := Aside0.mk (blk_below (g := gb332) (o := .cells #[.string ((rd_T55 l1 x25_2).f0), .string ((rd_T55 l1 x25_2).f1)] 55 (0, 0)) (by (with_reducible repeat (first | refine bN_ ?_ _ | refine bD_ ?_ | refine bA_ ?_ _)); exact BK332.out) hb); have n3_ := Aside0.mk (below_step zb2 hb); clear HO_330003; clear BK329; clear BK332; clear HB; have HO_330003 := n0_; have BK329 := n1_; have BK332 := n2_; have HB := n3_; clear n0_ n1_ n2_ n3_; (try clear hb); (try clear hb2); (try clear hk); (try clear hi)))
             go_meet
             case rel => exact ⟨_, (decide (t335 ≥ 0)), zb5, H', ⟨by have := HJ3.out; have := HK2.out; first | omega | exact Nat.le_refl _⟩, ⟨by (with_reducible repeat (first | apply Kd.R_alloc | apply Kd.R_drewN | apply Kd.R_drew)); exact HO_330003.out⟩, ⟨by (with_reducible repeat (first | refine bN_ ?_ _ | refine bD_ ?_ | refine bA_ ?_ _)); exact BK329.out⟩, ⟨by (with_reducible repeat (first | refine bN_ ?_ _ | refine bD_ ?_ | refine bA_ ?_ _)); exact BK332.out⟩, ⟨by repeat (first | (with_reducible first | exact HB.out | apply below_alloc | apply pw_below_drewN | apply below_drew1 | refine below_set ?_ GE329.out | refine below_set ?_ GE332.out) | exact HB.out)⟩⟩
         case rest =>
          clear HC16
          try clear c1
          try clear c2
          try clear p2
          try clear c3
          try clear p3
          try clear q3
          try clear hx3
          try clear c9
          try clear c10
          try clear c12
          try clear c13
          try clear c13b0
          try clear c14
          try clear c14b0
          try clear c15
          try clear c15b0
          try clear c18
          try clear c20
          try clear c20b0
          try clear c20b1
          try clear c21
          try clear c21b0
          try clear c21b1
          try clear c22
          try clear c25
          try clear c29
          try clear c29b0
          try clear c30
          try clear c31
          try clear c33
          try clear c33b0
          try clear c33b1
          try clear p33
          try clear q33
          try clear hx33
          try clear c34
          try clear c39
          try clear hcz19_0
          try clear hcz19_1
          try clear hcz23_0
          try clear hcz23_1
          try clear hcz26_0
          try clear hcz26_1
          try clear hcz31_0
          try clear hcz31_1
          try clear hcz35_0
          try clear hcz35_1
          try clear hcz37_0
          try clear hcz37_1
          try clear hcz40_0
          try clear hcz40_1
          try clear hcz42_0
          try clear hcz42_1
          try clear hcz7_0
          try clear hcz7_1
          try clear hcz7_2
          try clear hcz7_3
          try clear hfz19_0
          try clear hfz19_1
          try clear hfz23_0
          try clear hfz23_1
          try clear hfz26_0
          try clear hfz26_1
          try clear hfz31_0
          try clear hfz31_1
          try clear hfz35_0
          try clear hfz35_1
          try clear hfz37_0
          try clear hfz37_1
          try clear hfz40_0
          try clear hfz40_1
          try clear hfz42_0
          try clear hfz42_1
          try clear hfz7_0
          try clear hfz7_1
          try clear hfz7_2
          try clear hfz7_3
          try clear hx331_0
          try clear hx331_1
          try clear p2
          try clear p331
          try clear q331
          obtain ⟨kq, x50_15, rfl, HA, HJ15, HO_330003, BK329, BK332, HB⟩ := hcut
          cases kq with
          | zero => exact absurd HA.out (by simp [impl_In.j2])
          | succ kj15 =>
           have H := HA.out
           clear HA
           simp only [impl_In.j2] at H
           by_cases c44 : x50_15 = true
           ·subst c44
            have H1 : (impl_In.l0 kj15 a0 l1 (l1.length : Int) (wrap64 (x25_2 + 1)) t322 t323 t324 t325) = some r := by rw [if_pos rfl] at H; exact H
            clear H
            have H := H1
            clear H1
            have H' := Aside0.mk H
            clear H
            go_wp2
            go_roundg kj15
            case measure => have := HJ3.out; have := HK2.out; have := HJ15.out; omega
            case rel => exact ⟨(wrap64 (x25_2 + 1)), zb5, H', ⟨by have := HJ3.out; have := HK2.out; have := HJ15.out; omega⟩, ⟨by (with_reducible repeat (first | apply Kd.R_alloc | apply Kd.R_drewN | apply Kd.R_drew)); exact HO_330003.out⟩, ⟨by (with_reducible repeat (first | refine bN_ ?_ _ | refine bD_ ?_ | refine bA_ ?_ _)); exact BK329.out⟩, ⟨by repeat (first | (with_reducible first | exact HB.out | apply below_alloc | apply pw_below_drewN | apply below_drew1 | refine below_set ?_ GE329.out | refine below_set ?_ GE332.out) | exact HB.out)⟩⟩
           ·replace c44 := Bool.eq_false_iff.mpr c44
            subst c44
            have H1 : ((impl_ReadVersion.f kj15 ((rd_T55 l1 x25_2).f0)).bind fun bt336 => (if (t325.length : Int) = 0 then (some true) else (if (bt336.2.2.2.1.length : Int) > 0 then (if bt336.1 = t322 then (if bt336.2.1 = t323 then (if bt336.2.2.1 = t324 then (some true) else (impl_In.l0 kj15 a0 l1 (l1.length : Int) (wrap64 (x25_2 + 1)) t322 t323 t324 t325)) else (impl_In.l0 kj15 a0 l1 (l1.length : Int) (wrap64 (x25_2 + 1)) t322 t323 t324 t325)) else (impl_In.l0 kj15 a0 l1 (l1.length : Int) (wrap64 (x25_2 + 1)) t322 t323 t324 t325)) else (impl_In.l0 kj15 a0 l1 (l1.length : Int) (wrap64 (x25_2 + 1)) t322 t323 t324 t325)))) = some r := by rw [if_neg (show ¬ (false = true) by decide)] at H; exact H
            clear H
            have H := H1
            clear H1
            replace H := Option.bind_eq_some_iff.mp H
            obtain ⟨⟨t336, t337, t338, t339, t342⟩, A450, H⟩ := H
            replace H : (if (t325.length : Int) = 0 then (some true) else (if (t339.length : Int) > 0 then (if t336 = t322 then (if t337 = t323 then (if t338 = t324 then (some true) else (impl_In.l0 kj15 a0 l1 (l1.length : Int) (wrap64 (x25_2 + 1)) t322 t323 t324 t325)) else (impl_In.l0 kj15 a0 l1 (l1.length : Int) (wrap64 (x25_2 + 1)) t322 t323 t324 t325)) else (impl_In.l0 kj15 a0 l1 (l1.length : Int) (wrap64 (x25_2 + 1)) t322 t323 t324 t325)) else (impl_In.l0 kj15 a0 l1 (l1.length : Int) (wrap64 (x25_2 + 1)) t322 t323 t324 t325))) = some r := H
            have A45 := Aside0.mk A450
            clear A450
            by_cases c46 : (t325.length : Int) = 0
            ·rw [if_pos c46] at H
             have c46b0 : ((t325.length : Int) == 0) = true := beq_iff_eq.mpr c46
             have c46b1 : ((t325.length : Int) != 0) = false := bne_eq_false_iff_eq.mpr c46
             clear c46
             obtain rfl := Option.some.inj H
             have hnb47 := NB332_329.out
             have hnc47 := NB329_332.out
             have hcz48_0 : wc.cell? ⟨gb332, 0, none⟩ = some (.string ((rd_T55 l1 x25_2).f0)) := (blk_cell BK332.out 0).trans rfl
             have hcz48_1 : wc.cell? ⟨gb332, 1, none⟩ = some (.string ((rd_T55 l1 x25_2).f1)) := (blk_cell BK332.out 1).trans rfl
             have hfz48_0 := blk_frozen BK332.out 0
             have hfz48_1 := blk_frozen BK332.out 1
             exact impl_In.zl1
            ·rw [if_neg c46] at H
             have c46b0 : ((t325.length : Int) == 0) = false := beq_eq_false_iff_ne.mpr c46
             have c46b1 : ((t325.length : Int) != 0) = true := bne_iff_ne.mpr c46
             have c46b2 : ¬ (t325 = []) := fun h_ => c46 (by rw [h_]; rfl)
             by_cases c56 : (t339.length : Int) > 0
             ·rw [if_pos c56] at H
              have c56b0 : decide (0 < (t339.length : Int)) = true := decide_eq_true c56
              have c56b1 : decide (0 < t339.length) = true := decide_eq_true (by omega)
              clear c56
              by_cases c57 : t336 = t322
              ·rw [if_pos c57] at H
               have c57b0 : (t336 == t322) = true := beq_iff_eq.mpr c57
               have c57b1 : (t336 != t322) = false := bne_eq_false_iff_eq.mpr c57
               clear c57
               by_cases c58 : t337 = t323
               ·rw [if_pos c58] at H
                have c58b0 : (t337 == t323) = true := beq_iff_eq.mpr c58
                have c58b1 : (t337 != t323) = false := bne_eq_false_iff_eq.mpr c58
                clear c58
                by_cases c59 : t338 = t324
                ·rw [if_pos c59] at H
                 have c59b0 : (t338 == t324) = true := beq_iff_eq.mpr c59
                 have c59b1 : (t338 != t324) = false := bne_eq_false_iff_eq.mpr c59
                 clear c59
                 obtain rfl := Option.some.inj H
                 have hnb60 := NB332_329.out
                 have hnc60 := NB329_332.out
                 have hcz61_0 : wc.cell? ⟨gb332, 0, none⟩ = some (.string ((rd_T55 l1 x25_2).f0)) := (blk_cell BK332.out 0).trans rfl
                 have hcz61_1 : wc.cell? ⟨gb332, 1, none⟩ = some (.string ((rd_T55 l1 x25_2).f1)) := (blk_cell BK332.out 1).trans rfl
                 have hfz61_0 := blk_frozen BK332.out 0
                 have hfz61_1 := blk_frozen BK332.out 1
                 exact impl_In.zl1
                ·rw [if_neg c59] at H
                 have c59b0 : (t338 == t324) = false := beq_eq_false_iff_ne.mpr c59
                 have c59b1 : (t338 != t324) = true := bne_iff_ne.mpr c59
                 have H' := Aside0.mk H
                 clear H
                 have hnb69 := NB332_329.out
                 have hnc69 := NB329_332.out
                 have hcz70_0 : wc.cell? ⟨gb332, 0, none⟩ = some (.string ((rd_T55 l1 x25_2).f0)) := (blk_cell BK332.out 0).trans rfl
                 have hcz70_1 : wc.cell? ⟨gb332, 1, none⟩ = some (.string ((rd_T55 l1 x25_2).f1)) := (blk_cell BK332.out 1).trans rfl
                 have hfz70_0 := blk_frozen BK332.out 0
                 have hfz70_1 := blk_frozen BK332.out 1
                 go_wp2_with (first | ((with_reducible refine gate_callee (f := 31) rfl ?_); refine goesL_ (some 54) rfl rfl Tryz.func31 (by kernel_rfl) rfl #[.string ((rd_T55 l1 x25_2).f0)] rfl zb1 ?_; (with_reducible refine (impl_ReadVersion.calls kj15 ((rd_T55 l1 x25_2).f0) t336 t337 t338 t339 t342 _ ?side1 ?side2 ?side3 A45.out).mono ?_); (case side1 => exact Glob.below HGE.out zb2); (case side2 => exact Glob.below HGM.out zb2); (case side3 => exact Glob.below HGT.out zb2); rintro e w71 ⟨v340, rfl, ho0, hb⟩; refine ⟨_, rfl, ?_⟩; have n0_ := Aside0.mk (Kd.R_elder' (by (with_reducible repeat (first | apply Kd.R_alloc | apply Kd.R_drewN | apply Kd.R_drew)); exact HO_330003.out) (Kd.R_base ho0) hb); have n1_ := Aside0.mk (Kd.R_lower (Kd.R_new' ho0 (Kd.R_lt (by (with_reducible repeat (first | apply Kd.R_alloc | apply Kd.R_drewN | apply Kd.R_drew)); exact HO_330003.out))) (below_size zb2)); have n2_ := Aside0.mk (blk_below (g := gb329) (o := .cells #[.int .i64 t322, .int .i64 t323, .int .i64 t324, .slice Ao8 t325.length co8] 50 (0, 0)) (by (with_reducible repeat (first | refine bN_ ?_ _ | refine bD_ ?_ | refine bA_ ?_ _)); exact BK329.out) hb); have n3_ := Aside0.mk (blk_below (g := gb332) (o := .cells #[.string ((rd_T55 l1 x25_2).f0), .string ((rd_T55 l1 x25_2).f1)] 55 (0, 0)) (by (with_reducible repeat (first | refine bN_ ?_ _ | refine bD_ ?_ | refine bA_ ?_ _)); exact BK332.out) hb); have n4_ := Aside0.mk (below_step zb2 hb); clear HO_330003; clear BK329; clear BK332; clear HB; have HO_330003 := n0_; have HO341 := n1_; have BK329 := n2_; have BK332 := n3_; have HB := n4_; clear n0_ n1_ n2_ n3_ n4_; (try clear hb); (try clear hb2); (try clear hk); (try clear hi); (try clear ho0)) | ((with_reducible refine gate_dst (N := 9) rfl ?_); refine box_event ?hg (N := 9) ?hd (cs := #[.int .i64 0, .int .i64 0, .int .i64 0, .slice none 0 0]) (t := 50) ?hr ?_; (case hd => rfl); (case hg => rfl); (case hr => first | (go_simp; done) | (go_simp; rfl)); intro gb343 hg w72 hbox hb; have n0_ := Aside0.mk (Kd.R_below (by (with_reducible repeat (first | apply Kd.R_alloc | apply Kd.R_drewN | apply Kd.R_drew)); exact HO_330003.out) hb); have n1_ := Aside0.mk (Kd.R_below (by (with_reducible repeat (first | apply Kd.R_alloc | apply Kd.R_drewN | apply Kd.R_drew)); exact HO341.out) hb); have n2_ := Aside0.mk (blk_below (g := gb329) (o := .cells #[.int .i64 t322, .int .i64 t323, .int .i64 t324, .slice Ao8 t325.length co8] 50 (0, 0)) (by (with_reducible repeat (first | refine bN_ ?_ _ | refine bD_ ?_ | refine bA_ ?_ _)); exact BK329.out) hb); have n3_ := Aside0.mk (blk_below (g := gb332) (o := .cells #[.string ((rd_T55 l1 x25_2).f0), .string ((rd_T55 l1 x25_2).f1)] 55 (0, 0)) (by (with_reducible repeat (first | refine bN_ ?_ _ | refine bD_ ?_ | refine bA_ ?_ _)); exact BK332.out) hb); have n4_ := Aside0.mk (below_step zb2 hb); have n5_ := Aside0.mk (hbox); have n6_ := Aside0.mk ((by rw [hg]; exact (below_size zb2) : w.heap.size ≤ gb343)); have n7_ := Aside0.mk ((by rw [hg]; exact (below_size zb2) : w.heap.size ≤ gb343)); have n8_ := Aside0.mk ((by rw [hg]; exact Nat.ne_of_lt (blk_lt (g := gb329) (o := .cells #[.int .i64 t322, .int .i64 t323, .int .i64 t324, .slice Ao8 t325.length co8] 50 (0, 0)) (by (with_reducible repeat (first | refine bN_ ?_ _ | refine bD_ ?_ | refine bA_ ?_ _)); exact BK329.out)) : gb329 ≠ gb343)); have n9_ := Aside0.mk ((by rw [hg]; exact Nat.ne_of_gt (blk_lt (g := gb329) (o := .cells #[.int .i64 t322, .int .i64 t323, .int .i64 t324, .slice Ao8 t325.length co8] 50 (0, 0)) (by (with_reducible repeat (first | refine bN_ ?_ _ | refine bD_ ?_ | refine bA_ ?_ _)); exact BK329.out)) : gb343 ≠ gb329)); have n10_ := Aside0.mk ((by rw [hg]; exact Nat.ne_of_lt (blk_lt (g := gb332) (o := .cells #[.string ((rd_T55 l1 x25_2).f0), .string ((rd_T55 l1 x25_2).f1)] 55 (0, 0)) (by (with_reducible repeat (first | refine bN_ ?_ _ | refine bD_ ?_ | refine bA_ ?_ _)); exact BK332.out)) : gb332 ≠ gb343)); have n11_ := Aside0.mk ((by rw [hg]; exact Nat.ne_of_gt (blk_lt (g := gb332) (o := .cells #[.string ((rd_T55 l1 x25_2).f0), .string ((rd_T55 l1 x25_2).f1)] 55 (0, 0)) (by (with_reducible repeat (first | refine bN_ ?_ _ | refine bD_ ?_ | refine bA_ ?_ _)); exact BK332.out)) : gb343 ≠ gb332)); clear HO_330003; clear HO341; clear BK329; clear BK332; clear HB; have HO_330003 := n0_; have HO341 := n1_; have BK329 := n2_; have BK332 := n3_; have HB := n4_; have BK343 := n5_; have GW343 := n6_; have GE343 := n7_; have NB329_343 := n8_; have NB343_329 := n9_; have NB332_343 := n10_; have NB343_332 := n11_; clear n0_ n1_ n2_ n3_ n4_ n5_ n6_ n7_ n8_ n9_ n10_ n11_; clear hb hbox hg; have hnb73 := NB343_329.out; have hnc73 := NB329_343.out; have hnb74 := NB343_332.out; have hnc74 := NB332_343.out; have hcz75_0 : w72.cell? ⟨gb343, 0, none⟩ = some (.int .i64 0) := (blk_cell BK343.out 0).trans rfl; have hcz75_1 : w72.cell? ⟨gb343, 1, none⟩ = some (.int .i64 0) := (blk_cell BK343.out 1).trans rfl; have hcz75_2 : w72.cell? ⟨gb343, 2, none⟩ = some (.int .i64 0) := (blk_cell BK343.out 2).trans rfl; have hcz75_3 : w72.cell? ⟨gb343, 3, none⟩ = some (.slice none 0 0) := (blk_cell BK343.out 3).trans rfl; have hfz75_0 := blk_frozen BK343.out 0; have hfz75_1 := blk_frozen BK343.out 1; have hfz75_2 := blk_frozen BK343.out 2; have hfz75_3 := blk_frozen BK343.out 3; obtain ⟨Ao76, co76, eo76⟩ := Kd.R_slice HO341.out; subst eo76; have hcz77_0 : w72.cell? ⟨gb329, 0, none⟩ = some (.int .i64 t322) := (blk_cell BK329.out 0).trans rfl; have hcz77_1 : w72.cell? ⟨gb329, 1, none⟩ = some (.int .i64 t323) := (blk_cell BK329.out 1).trans rfl; have hcz77_2 : w72.cell? ⟨gb329, 2, none⟩ = some (.int .i64 t324) := (blk_cell BK329.out 2).trans rfl; have hcz77_3 : w72.cell? ⟨gb329, 3, none⟩ = some (.slice Ao8 t325.length co8) := (blk_cell BK329.out 3).trans rfl; have hfz77_0 := blk_frozen BK329.out 0; have hfz77_1 := blk_frozen BK329.out 1; have hfz77_2 := blk_frozen BK329.out 2; have hfz77_3 := blk_frozen BK329.out 3))
                 go_roundg kj15
                 case measure => have := HJ3.out; have := HK2.out; have := HJ15.out; omega
                 case rel => exact ⟨(wrap64 (x25_2 + 1)), zb5, H', ⟨by have := HJ3.out; have := HK2.out; have := HJ15.out; omega⟩, ⟨by (with_reducible repeat (first | apply Kd.R_alloc | apply Kd.R_drewN | apply Kd.R_drew)); exact Kd.R_mono (Kd.R_far (p := ⟨gb343, 3, none⟩) (Kd.R_far (p := ⟨gb343, 2, none⟩) (Kd.R_far (p := ⟨gb343, 1, none⟩) (Kd.R_far (p := ⟨gb343, 0, none⟩) (Kd.R_types HO_330003.out BK343.out (by decide)) (fun _ hk => hk.2) (.int .i64 t336)) (fun _ hk => hk.2) (.int .i64 t337)) (fun _ hk => hk.2) (.int .i64 t338)) (fun _ hk => hk.2) (.slice Ao76 t339.length co76)) (fun _ hk => trivial)⟩, ⟨by (with_reducible repeat (first | refine bN_ ?_ _ | refine bD_ ?_ | refine bA_ ?_ _)); refine blk_far ?_ NB329_343.out _; (with_reducible repeat (first | refine bN_ ?_ _ | refine bD_ ?_ | refine bA_ ?_ _)); refine blk_far ?_ NB329_343.out _; (with_reducible repeat (first | refine bN_ ?_ _ | refine bD_ ?_ | refine bA_ ?_ _)); refine blk_far ?_ NB329_343.out _; (with_reducible repeat (first | refine bN_ ?_ _ | refine bD_ ?_ | refine bA_ ?_ _)); refine blk_far ?_ NB329_343.out _; (with_reducible repeat (first | refine bN_ ?_ _ | refine bD_ ?_ | refine bA_ ?_ _)); exact BK329.out⟩, ⟨by repeat (first | (with_reducible first | exact HB.out | apply below_alloc | apply pw_below_drewN | apply below_drew1 | refine below_set ?_ GE329.out | refine below_set ?_ GE332.out | refine below_set ?_ GE343.out) | exact HB.out)⟩⟩
               ·rw [if_neg c58] at H
                have c58b0 : (t337 == t323) = false := beq_eq_false_iff_ne.mpr c58
                have c58b1 : (t337 != t323) = true := bne_iff_ne.mpr c58
                have H' := Aside0.mk H
                clear H
                have hnb78 := NB332_329.out
                have hnc78 := NB329_332.out
                have hcz79_0 : wc.cell? ⟨gb332, 0, none⟩ = some (.string ((rd_T55 l1 x25_2).f0)) := (blk_cell BK332.out 0).trans rfl
                have hcz79_1 : wc.cell? ⟨gb332, 1, none⟩ = some (.string ((rd_T55 l1 x25_2).f1)) := (blk_cell BK332.out 1).trans rfl
                have hfz79_0 := blk_frozen BK332.out 0
                have hfz79_1 := blk_frozen BK332.out 1
                go_wp2_with (first | ((with_reducible refine gate_callee (f := 31) rfl ?_); refine goesL_ (some 54) rfl rfl Tryz.func31 (by kernel_rfl) rfl #[.string ((rd_T55 l1 x25_2).f0)] rfl zb1 ?_; (with_reducible refine (impl_ReadVersion.calls kj15 ((rd_T55 l1 x25_2).f0) t336 t337 t338 t339 t342 _ ?side1 ?side2 ?side3 A45.out).mono ?_); (case side1 => exact Glob.below HGE.out zb2); (case side2 => exact Glob.below HGM.out zb2); (case side3 => exact Glob.below HGT.out zb2); rintro e w80 ⟨v340, rfl, ho0, hb⟩; refine ⟨_, rfl, ?_⟩; have n0_ := Aside0.mk (Kd.R_elder' (by (with_reducible repeat (first | apply Kd.R_alloc | apply Kd.R_drewN | apply Kd.R_drew)); exact HO_330003.out) (Kd.R_base ho0) hb); have n1_ := Aside0.mk (Kd.R_lower (Kd.R_new' ho0 (Kd.R_lt (by (with_reducible repeat (first | apply Kd.R_alloc | apply Kd.R_drewN | apply Kd.R_drew)); exact HO_330003.out))) (below_size zb2)); have n2_ := Aside0.mk (blk_below (g := gb329) (o := .cells #[.int .i64 t322, .int .i64 t323, .int .i64 t324, .slice Ao8 t325.length co8] 50 (0, 0)) (by (with_reducible repeat (first | refine bN_ ?_ _ | refine bD_ ?_ | refine bA_ ?_ _)); exact BK329.out) hb); have n3_ := Aside0.mk (blk_below (g := gb332) (o := .cells #[.string ((rd_T55 l1 x25_2).f0), .string ((rd_T55 l1 x25_2).f1)] 55 (0, 0)) (by (with_reducible repeat (first | refine bN_ ?_ _ | refine bD_ ?_ | refine bA_ ?_ _)); exact BK332.out) hb); have n4_ := Aside0.mk (below_step zb2 hb); clear HO_330003; clear BK329; clear BK332; clear HB; have HO_330003 := n0_; have HO341 := n1_; have BK329 := n2_; have BK332 := n3_; have HB := n4_; clear n0_ n1_ n2_ n3_ n4_; (try clear hb); (try clear hb2); (try clear hk); (try clear hi); (try clear ho0)) | ((with_reducible refine gate_dst (N := 9) rfl ?_); refine box_event ?hg (N := 9) ?hd (cs := #[.int .i64 0, .int .i64 0, .int .i64 0, .slice none 0 0]) (t := 50) ?hr ?_; (case hd => rfl); (case hg => rfl); (case hr => first | (go_simp; done) | (go_simp; rfl)); intro gb343 hg w81 hbox hb; have n0_ := Aside0.mk (Kd.R_below (by (with_reducible repeat (first | apply Kd.R_alloc | apply Kd.R_drewN | apply Kd.R_drew)); exact HO_330003.out) hb); have n1_ := Aside0.mk (Kd.R_below (by (with_reducible repeat (first | apply Kd.R_alloc | apply Kd.R_drewN | apply Kd.R_drew)); exact HO341.out) hb); have n2_ := Aside0.mk (blk_below (g := gb329) (o := .cells #[.int .i64 t322, .int .i64 t323, .int .i64 t324, .slice Ao8 t325.length co8] 50 (0, 0)) (by (with_reducible repeat (first | refine bN_ ?_ _ | refine bD_ ?_ | refine bA_ ?_ _)); exact BK329.out) hb); have n3_ := Aside0.mk (blk_below (g := gb332) (o := .cells #[.string ((rd_T55 l1 x25_2).f0), .string ((rd_T55 l1 x25_2).f1)] 55 (0, 0)) (by (with_reducible repeat (first | refine bN_ ?_ _ | refine bD_ ?_ | refine bA_ ?_ _)); exact BK332.out) hb); have n4_ := Aside0.mk (below_step zb2 hb); have n5_ := Aside0.mk (hbox); have n6_ := Aside0.mk ((by rw [hg]; exact (below_size zb2) : w.heap.size ≤ gb343)); have n7_ := Aside0.mk ((by rw [hg]; exact (below_size zb2) : w.heap.size ≤ gb343)); have n8_ := Aside0.mk ((by rw [hg]; exact Nat.ne_of_lt (blk_lt (g := gb329) (o := .cells #[.int .i64 t322, .int .i64 t323, .int .i64 t324, .slice Ao8 t325.length co8] 50 (0, 0)) (by (with_reducible repeat (first | refine bN_ ?_ _ | refine bD_ ?_ | refine bA_ ?_ _)); exact BK329.out)) : gb329 ≠ gb343)); have n9_ := Aside0.mk ((by rw [hg]; exact Nat.ne_of_gt (blk_lt (g := gb329) (o := .cells #[.int .i64 t322, .int .i64 t323, .int .i64 t324, .slice Ao8 t325.length co8] 50 (0, 0)) (by (with_reducible repeat (first | refine bN_ ?_ _ | refine bD_ ?_ | refine bA_ ?_ _)); exact BK329.out)) : gb343 ≠ gb329)); have n10_ := Aside0.mk ((by rw [hg]; exact Nat.ne_of_lt (blk_lt (g := gb332) (o := .cells #[.string ((rd_T55 l1 x25_2).f0), .string ((rd_T55 l1 x25_2).f1)] 55 (0, 0)) (by (with_reducible repeat (first | refine bN_ ?_ _ | refine bD_ ?_ | refine bA_ ?_ _)); exact BK332.out)) : gb332 ≠ gb343)); have n11_ := Aside0.mk ((by rw [hg]; exact Nat.ne_of_gt (blk_lt (g := gb332) (o := .cells #[.string ((rd_T55 l1 x25_2).f0), .string ((rd_T55 l1 x25_2).f1)] 55 (0, 0)) (by (with_reducible repeat (first | refine bN_ ?_ _ | refine bD_ ?_ | refine bA_ ?_ _)); exact BK332.out)) : gb343 ≠ gb332)); clear HO_330003; clear HO341; clear BK329; clear BK332; clear HB; have HO_330003 := n0_; have HO341 := n1_; have BK329 := n2_; have BK332 := n3_; have HB := n4_; have BK343 := n5_; have GW343 := n6_; have GE343 := n7_; have NB329_343 := n8_; have NB343_329 := n9_; have NB332_343 := n10_; have NB343_332 := n11_; clear n0_ n1_ n2_ n3_ n4_ n5_ n6_ n7_ n8_ n9_ n10_ n11_; clear hb hbox hg; have hnb82 := NB343_329.out; have hnc82 := NB329_343.out; have hnb83 := NB343_332.out; have hnc83 := NB332_343.out; have hcz84_0 : w81.cell? ⟨gb343, 0, none⟩ = some (.int .i64 0) := (blk_cell BK343.out 0).trans rfl; have hcz84_1 : w81.cell? ⟨gb343, 1, none⟩ = some (.int .i64 0) := (blk_cell BK343.out 1).trans rfl; have hcz84_2 : w81.cell? ⟨gb343, 2, none⟩ = some (.int .i64 0) := (blk_cell BK343.out 2).trans rfl; have hcz84_3 : w81.cell? ⟨gb343, 3, none⟩ = some (.slice none 0 0) := (blk_cell BK343.out 3).trans rfl; have hfz84_0 := blk_frozen BK343.out 0; have hfz84_1 := blk_frozen BK343.out 1; have hfz84_2 := blk_frozen BK343.out 2; have hfz84_3 := blk_frozen BK343.out 3; obtain ⟨Ao85, co85, eo85⟩ := Kd.R_slice HO341.out; subst eo85; have hcz86_0 : w81.cell? ⟨gb329, 0, none⟩ = some (.int .i64 t322) := (blk_cell BK329.out 0).trans rfl; have hcz86_1 : w81.cell? ⟨gb329, 1, none⟩ = some (.int .i64 t323) := (blk_cell BK329.out 1).trans rfl; have hcz86_2 : w81.cell? ⟨gb329, 2, none⟩ = some (.int .i64 t324) := (blk_cell BK329.out 2).trans rfl; have hcz86_3 : w81.cell? ⟨gb329, 3, none⟩ = some (.slice Ao8 t325.length co8) := (blk_cell BK329.out 3).trans rfl; have hfz86_0 := blk_frozen BK329.out 0; have hfz86_1 := blk_frozen BK329.out 1; have hfz86_2 := blk_frozen BK329.out 2; have hfz86_3 := blk_frozen BK329.out 3))
                go_roundg kj15
                case measure => have := HJ3.out; have := HK2.out; have := HJ15.out; omega
                case rel => exact ⟨(wrap64 (x25_2 + 1)), zb5, H', ⟨by have := HJ3.out; have := HK2.out; have := HJ15.out; omega⟩, ⟨by (with_reducible repeat (first | apply Kd.R_alloc | apply Kd.R_drewN | apply Kd.R_drew)); exact Kd.R_mono (Kd.R_far (p := ⟨gb343, 3, none⟩) (Kd.R_far (p := ⟨gb343, 2, none⟩) (Kd.R_far (p := ⟨gb343, 1, none⟩) (Kd.R_far (p := ⟨gb343, 0, none⟩) (Kd.R_types HO_330003.out BK343.out (by decide)) (fun _ hk => hk.2) (.int .i64 t336)) (fun _ hk => hk.2) (.int .i64 t337)) (fun _ hk => hk.2) (.int .i64 t338)) (fun _ hk => hk.2) (.slice Ao85 t339.length co85)) (fun _ hk => trivial)⟩, ⟨by (with_reducible repeat (first | refine bN_ ?_ _ | refine bD_ ?_ | refine bA_ ?_ _)); refine blk_far ?_ NB329_343.out _; (with_reducible repeat (first | refine bN_ ?_ _ | refine bD_ ?_ | refine bA_ ?_ _)); refine blk_far ?_ NB329_343.out _; (with_reducible repeat (first | refine bN_ ?_ _ | refine bD_ ?_ | refine bA_ ?_ _)); refine blk_far ?_ NB329_343.out _; (with_reducible repeat (first | refine bN_ ?_ _ | refine bD_ ?_ | refine bA_ ?_ _)); refine blk_far ?_ NB329_343.out _; (with_reducible repeat (first | refine bN_ ?_ _ | refine bD_ ?_ | refine bA_ ?_ _)); exact BK329.out⟩, ⟨by repeat (first | (with_reducible first | exact HB.out | apply below_alloc | apply pw_below_drewN | apply below_drew1 | refine below_set ?_ GE329.out | refine below_set ?_ GE332.out | refine below_set ?_ GE343.out) | exact HB.out)⟩⟩
              ·rw [if_neg c57] at H
               have c57b0 : (t336 == t322) = false := beq_eq_false_iff_ne.mpr c57
               have c57b1 : (t336 != t322) = true := bne_iff_ne.mpr c57
               have H' := Aside0.mk H
               clear H
               have hnb87 := NB332_329.out
               have hnc87 := NB329_332.out
               have hcz88_0 : wc.cell? ⟨gb332, 0, none⟩ = some (.string ((rd_T55 l1 x25_2).f0)) := (blk_cell BK332.out 0).trans rfl
               have hcz88_1 : wc.cell? ⟨gb332, 1, none⟩ = some (.string ((rd_T55 l1 x25_2).f1)) := (blk_cell BK332.out 1).trans rfl
               have hfz88_0 := blk_frozen BK332.out 0
               have hfz88_1 := blk_frozen BK332.out 1
               go_wp2_with (first | ((with_reducible refine gate_callee (f := 31) rfl ?_); refine goesL_ (some 54) rfl rfl Tryz.func31 (by kernel_rfl) rfl #[.string ((rd_T55 l1 x25_2).f0)] rfl zb1 ?_; (with_reducible refine (impl_ReadVersion.calls kj15 ((rd_T55 l1 x25_2).f0) t336 t337 t338 t339 t342 _ ?side1 ?side2 ?side3 A45.out).mono ?_); (case side1 => exact Glob.below HGE.out zb2); (case side2 => exact Glob.below HGM.out zb2); (case side3 => exact Glob.below HGT.out zb2); rintro e w89 ⟨v340, rfl, ho0, hb⟩; refine ⟨_, rfl, ?_⟩; have n0_ := Aside0.mk (Kd.R_elder' (by (with_reducible repeat (first | apply Kd.R_alloc | apply Kd.R_drewN | apply Kd.R_drew)); exact HO_330003.out) (Kd.R_base ho0) hb); have n1_ := Aside0.mk (Kd.R_lower (Kd.R_new' ho0 (Kd.R_lt (by (with_reducible repeat (first | apply Kd.R_alloc | apply Kd.R_drewN | apply Kd.R_drew)); exact HO_330003.out))) (below_size zb2)); have n2_ := Aside0.mk (blk_below (g := gb329) (o := .cells #[.int .i64 t322, .int .i64 t323, .int .i64 t324, .slice Ao8 t325.length co8] 50 (0, 0)) (by (with_reducible repeat (first | refine bN_ ?_ _ | refine bD_ ?_ | refine bA_ ?_ _)); exact BK329.out) hb); have n3_ := Aside0.mk (blk_below (g := gb332) (o := .cells #[.string ((rd_T55 l1 x25_2).f0), .string ((rd_T55 l1 x25_2).f1)] 55 (0, 0)) (by (with_reducible repeat (first | refine bN_ ?_ _ | refine bD_ ?_ | refine bA_ ?_ _)); exact BK332.out) hb); have n4_ := Aside0.mk (below_step zb2 hb); clear HO_330003; clear BK329; clear BK332; clear HB; have HO_330003 := n0_; have HO341 := n1_; have BK329 := n2_; have BK332 := n3_; have HB := n4_; clear n0_ n1_ n2_ n3_ n4_; (try clear hb); (try clear hb2); (try clear hk); (try clear hi); (try clear ho0)) | ((with_reducible refine gate_dst (N := 9) rfl ?_); refine box_event ?hg (N := 9) ?hd (cs := #[.int .i64 0, .int .i64 0, .int .i64 0, .slice none 0 0]) (t := 50) ?hr ?_; (case hd => rfl); (case hg => rfl); (case hr => first | (go_simp; done) | (go_simp; rfl)); intro gb343 hg w90 hbox hb; have n0_ := Aside0.mk (Kd.R_below (by (with_reducible repeat (first | apply Kd.R_alloc | apply Kd.R_drewN | apply Kd.R_drew)); exact HO_330003.out) hb); have n1_ := Aside0.mk (Kd.R_below (by (with_reducible repeat (first | apply Kd.R_alloc | apply Kd.R_drewN | apply Kd.R_drew)); exact HO341.out) hb); have n2_ := Aside0.mk (blk_below (g := gb329) (o := .cells #[.int .i64 t322, .int .i64 t323, .int .i64 t324, .slice Ao8 t325.length co8] 50 (0, 0)) (by (with_reducible repeat (first | refine bN_ ?_ _ | refine bD_ ?_ | refine bA_ ?_ _)); exact BK329.out) hb); have n3_ := Aside0.mk (blk_below (g := gb332) (o := .cells #[.string ((rd_T55 l1 x25_2).f0), .string ((rd_T55 l1 x25_2).f1)] 55 (0, 0)) (by (with_reducible repeat (first | refine bN_ ?_ _ | refine bD_ ?_ | refine bA_ ?_ _)); exact BK332.out) hb); have n4_ := Aside0.mk (below_step zb2 hb); have n5_ := Aside0.mk (hbox); have n6_ := Aside0.mk ((by rw [hg]; exact (below_size zb2) : w.heap.size ≤ gb343)); have n7_ := Aside0.mk ((by rw [hg]; exact (below_size zb2) : w.heap.size ≤ gb343)); have n8_ := Aside0.mk ((by rw [hg]; exact Nat.ne_of_lt (blk_lt (g := gb329) (o := .cells #[.int .i64 t322, .int .i64 t323, .int .i64 t324, .slice Ao8 t325.length co8] 50 (0, 0)) (by (with_reducible repeat (first | refine bN_ ?_ _ | refine bD_ ?_ | refine bA_ ?_ _)); exact BK329.out)) : gb329 ≠ gb343)); have n9_ := Aside0.mk ((by rw [hg]; exact Nat.ne_of_gt (blk_lt (g := gb329) (o := .cells #[.int .i64 t322, .int .i64 t323, .int .i64 t324, .slice Ao8 t325.length co8] 50 (0, 0)) (by (with_reducible repeat (first | refine bN_ ?_ _ | refine bD_ ?_ | refine bA_ ?_ _)); exact BK329.out)) : gb343 ≠ gb329)); have n10_ := Aside0.mk ((by rw [hg]; exact Nat.ne_of_lt (blk_lt (g := gb332) (o := .cells #[.string ((rd_T55 l1 x25_2).f0), .string ((rd_T55 l1 x25_2).f1)] 55 (0, 0)) (by (with_reducible repeat (first | refine bN_ ?_ _ | refine bD_ ?_ | refine bA_ ?_ _)); exact BK332.out)) : gb332 ≠ gb343)); have n11_ := Aside0.mk ((by rw [hg]; exact Nat.ne_of_gt (blk_lt (g := gb332) (o := .cells #[.string ((rd_T55 l1 x25_2).f0), .string ((rd_T55 l1 x25_2).f1)] 55 (0, 0)) (by (with_reducible repeat (first | refine bN_ ?_ _ | refine bD_ ?_ | refine bA_ ?_ _)); exact BK332.out)) : gb343 ≠ gb332)); clear HO_330003; clear HO341; clear BK329; clear BK332; clear HB; have HO_330003 := n0_; have HO341 := n1_; have BK329 := n2_; have BK332 := n3_; have HB := n4_; have BK343 := n5_; have GW343 := n6_; have GE343 := n7_; have NB329_343 := n8_; have NB343_329 := n9_; have NB332_343 := n10_; have NB343_332 := n11_; clear n0_ n1_ n2_ n3_ n4_ n5_ n6_ n7_ n8_ n9_ n10_ n11_; clear hb hbox hg; have hnb91 := NB343_329.out; have hnc91 := NB329_343.out; have hnb92 := NB343_332.out; have hnc92 := NB332_343.out; have hcz93_0 : w90.cell? ⟨gb343, 0, none⟩ = some (.int .i64 0) := (blk_cell BK343.out 0).trans rfl; have hcz93_1 : w90.cell? ⟨gb343, 1, none⟩ = some (.int .i64 0) := (blk_cell BK343.out 1).trans rfl; have hcz93_2 : w90.cell? ⟨gb343, 2, none⟩ = some (.int .i64 0) := (blk_cell BK343.out 2).trans rfl; have hcz93_3 : w90.cell? ⟨gb343, 3, none⟩ = some (.slice none 0 0) := (blk_cell BK343.out 3).trans rfl; have hfz93_0 := blk_frozen BK343.out 0; have hfz93_1 := blk_frozen BK343.out 1; have hfz93_2 := blk_frozen BK343.out 2; have hfz93_3 := blk_frozen BK343.out 3; obtain ⟨Ao94, co94, eo94⟩ := Kd.R_slice HO341.out; subst eo94; have hcz95_0 : w90.cell? ⟨gb329, 0, none⟩ = some (.int .i64 t322) := (blk_cell BK329.out 0).trans rfl; have hcz95_1 : w90.cell? ⟨gb329, 1, none⟩ = some (.int .i64 t323) := (blk_cell BK329.out 1).trans rfl; have hcz95_2 : w90.cell? ⟨gb329, 2, none⟩ = some (.int .i64 t324) := (blk_cell BK329.out 2).trans rfl; have hcz95_3 : w90.cell? ⟨gb329, 3, none⟩ = some (.slice Ao8 t325.length co8) := (blk_cell BK329.out 3).trans rfl; have hfz95_0 := blk_frozen BK329.out 0; have hfz95_1 := blk_frozen BK329.out 1; have hfz95_2 := blk_frozen BK329.out 2; have hfz95_3 := blk_frozen BK329.out 3))
               go_roundg kj15
               case measure => have := HJ3.out; have := HK2.out; have := HJ15.out; omega
               case rel => exact ⟨(wrap64 (x25_2 + 1)), zb5, H', ⟨by have := HJ3.out; have := HK2.out; have := HJ15.out; omega⟩, ⟨by (with_reducible repeat (first | apply Kd.R_alloc | apply Kd.R_drewN | apply Kd.R_drew)); exact Kd.R_mono (Kd.R_far (p := ⟨gb343, 3, none⟩) (Kd.R_far (p := ⟨gb343, 2, none⟩) (Kd.R_far (p := ⟨gb343, 1, none⟩) (Kd.R_far (p := ⟨gb343, 0, none⟩) (Kd.R_types HO_330003.out BK343.out (by decide)) (fun _ hk => hk.2) (.int .i64 t336)) (fun _ hk => hk.2) (.int .i64 t337)) (fun _ hk => hk.2) (.int .i64 t338)) (fun _ hk => hk.2) (.slice Ao94 t339.length co94)) (fun _ hk => trivial)⟩, ⟨by (with_reducible repeat (first | refine bN_ ?_ _ | refine bD_ ?_ | refine bA_ ?_ _)); refine blk_far ?_ NB329_343.out _; (with_reducible repeat (first | refine bN_ ?_ _ | refine bD_ ?_ | refine bA_ ?_ _)); refine blk_far ?_ NB329_343.out _; (with_reducible repeat (first | refine bN_ ?_ _ | refine bD_ ?_ | refine bA_ ?_ _)); refine blk_far ?_ NB329_343.out _; (with_reducible repeat (first | refine bN_ ?_ _ | refine bD_ ?_ | refine bA_ ?_ _)); refine blk_far ?_ NB329_343.out _; (with_reducible repeat (first | refine bN_ ?_ _ | refine bD_ ?_ | refine bA_ ?_ _)); exact BK329.out⟩, ⟨by repeat (first | (with_reducible first | exact HB.out | apply below_alloc | apply pw_below_drewN | apply below_drew1 | refine below_set ?_ GE329.out | refine below_set ?_ GE332.out | refine below_set ?_ GE343.out) | exact HB.out)⟩⟩
             ·rw [if_neg c56] at H
              have c56b0 : decide (0 < (t339.length : Int)) = false := decide_eq_false c56
              have c56b1 : decide (0 < t339.length) = false := decide_eq_false (by omega)
              clear c56
              have H' := Aside0.mk H
              clear H
              have hnb96 := NB332_329.out
              have hnc96 := NB329_332.out
              have hcz97_0 : wc.cell? ⟨gb332, 0, none⟩ = some (.string ((rd_T55 l1 x25_2).f0)) := (blk_cell BK332.out 0).trans rfl
              have hcz97_1 : wc.cell? ⟨gb332, 1, none⟩ = some (.string ((rd_T55 l1 x25_2).f1)) := (blk_cell BK332.out 1).trans rfl
              have hfz97_0 := blk_frozen BK332.out 0
              have hfz97_1 := blk_frozen BK332.out 1
              go_wp2_with (first | ((with_reducible refine gate_callee (f := 31) rfl ?_); refine goesL_ (some 54) rfl rfl Tryz.func31 (by kernel_rfl) rfl #[.string ((rd_T55 l1 x25_2).f0)] rfl zb1 ?_; (with_reducible refine (impl_ReadVersion.calls kj15 ((rd_T55 l1 x25_2).f0) t336 t337 t338 t339 t342 _ ?side1 ?side2 ?side3 A45.out).mono ?_); (case side1 => exact Glob.below HGE.out zb2); (case side2 => exact Glob.below HGM.out zb2); (case side3 => exact Glob.below HGT.out zb2); rintro e w98 ⟨v340, rfl, ho0, hb⟩; refine ⟨_, rfl, ?_⟩; have n0_ := Aside0.mk (Kd.R_elder' (by (with_reducible repeat (first | apply Kd.R_alloc | apply Kd.R_drewN | apply Kd.R_drew)); exact HO_330003.out) (Kd.R_base ho0) hb); have n1_ := Aside0.mk (Kd.R_lower (Kd.R_new' ho0 (Kd.R_lt (by (with_reducible repeat (first | apply Kd.R_alloc | apply Kd.R_drewN | apply Kd.R_drew)); exact HO_330003.out))) (below_size zb2)); have n2_ := Aside0.mk (blk_below (g := gb329) (o := .cells #[.int .i64 t322, .int .i64 t323, .int .i64 t324, .slice Ao8 t325.length co8] 50 (0, 0)) (by (with_reducible repeat (first | refine bN_ ?_ _ | refine bD_ ?_ | refine bA_ ?_ _)); exact BK329.out) hb); have n3_ := Aside0.mk (blk_below (g := gb332) (o := .cells #[.string ((rd_T55 l1 x25_2).f0), .string ((rd_T55 l1 x25_2).f1)] 55 (0, 0)) (by (with_reducible repeat (first | refine bN_ ?_ _ | refine bD_ ?_ | refine bA_ ?_ _)); exact BK332.out) hb); have n4_ := Aside0.mk (below_step zb2 hb); clear HO_330003; clear BK329; clear BK332; clear HB; have HO_330003 := n0_; have HO341 := n1_; have BK329 := n2_; have BK332 := n3_; have HB := n4_; clear n0_ n1_ n2_ n3_ n4_; (try clear hb); (try clear hb2); (try clear hk); (try clear hi); (try clear ho0)) | ((with_reducible refine gate_dst (N := 9) rfl ?_); refine box_event ?hg (N := 9) ?hd (cs := #[.int .i64 0, .int .i64 0, .int .i64 0, .slice none 0 0]) (t := 50) ?hr ?_; (case hd => rfl); (case hg => rfl); (case hr => first | (go_simp; done) | (go_simp; rfl)); intro gb343 hg w99 hbox hb; have n0_ := Aside0.mk (Kd.R_below (by (with_reducible repeat (first | apply Kd.R_alloc | apply Kd.R_drewN | apply Kd.R_drew)); exact HO_330003.out) hb); have n1_ := Aside0.mk (Kd.R_below (by (with_reducible repeat (first | apply Kd.R_alloc | apply Kd.R_drewN | apply Kd.R_drew)); exact HO341.out) hb); have n2_ := Aside0.mk (blk_below (g := gb329) (o := .cells #[.int .i64 t322, .int .i64 t323, .int .i64 t324, .slice Ao8 t325.length co8] 50 (0, 0)) (by (with_reducible repeat (first | refine bN_ ?_ _ | refine bD_ ?_ | refine bA_ ?_ _)); exact BK329.out) hb); have n3_ := Aside0.mk (blk_below (g := gb332) (o := .cells #[.string ((rd_T55 l1 x25_2).f0), .string ((rd_T55 l1 x25_2).f1)] 55 (0, 0)) (by (with_reducible repeat (first | refine bN_ ?_ _ | refine bD_ ?_ | refine bA_ ?_ _)); exact BK332.out) hb); have n4_ := Aside0.mk (below_step zb2 hb); have n5_ := Aside0.mk (hbox); have n6_ := Aside0.mk ((by rw [hg]; exact (below_size zb2) : w.heap.size ≤ gb343)); have n7_ := Aside0.mk ((by rw [hg]; exact (below_size zb2) : w.heap.size ≤ gb343)); have n8_ := Aside0.mk ((by rw [hg]; exact Nat.ne_of_lt (blk_lt (g := gb329) (o := .cells #[.int .i64 t322, .int .i64 t323, .int .i64 t324, .slice Ao8 t325.length co8] 50 (0, 0)) (by (with_reducible repeat (first | refine bN_ ?_ _ | refine bD_ ?_ | refine bA_ ?_ _)); exact BK329.out)) : gb329 ≠ gb343)); have n9_ := Aside0.mk ((by rw [hg]; exact Nat.ne_of_gt (blk_lt (g := gb329) (o := .cells #[.int .i64 t322, .int .i64 t323, .int .i64 t324, .slice Ao8 t325.length co8] 50 (0, 0)) (by (with_reducible repeat (first | refine bN_ ?_ _ | refine bD_ ?_ | refine bA_ ?_ _)); exact BK329.out)) : gb343 ≠ gb329)); have n10_ := Aside0.mk ((by rw [hg]; exact Nat.ne_of_lt (blk_lt (g := gb332) (o := .cells #[.string ((rd_T55 l1 x25_2).f0), .string ((rd_T55 l1 x25_2).f1)] 55 (0, 0)) (by (with_reducible repeat (first | refine bN_ ?_ _ | refine bD_ ?_ | refine bA_ ?_ _)); exact BK332.out)) : gb332 ≠ gb343)); have n11_ := Aside0.mk ((by rw [hg]; exact Nat.ne_of_gt (blk_lt (g := gb332) (o := .cells #[.string ((rd_T55 l1 x25_2).f0), .string ((rd_T55 l1 x25_2).f1)] 55 (0, 0)) (by (with_reducible repeat (first | refine bN_ ?_ _ | refine bD_ ?_ | refine bA_ ?_ _)); exact BK332.out)) : gb343 ≠ gb332)); clear HO_330003; clear HO341; clear BK329; clear BK332; clear HB; have HO_330003 := n0_; have HO341 := n1_; have BK329 := n2_; have BK332 := n3_; have HB := n4_; have BK343 := n5_; have GW343 := n6_; have GE343 := n7_; have NB329_343 := n8_; have NB343_329 := n9_; have NB332_343 := n10_; have NB343_332 := n11_; clear n0_ n1_ n2_ n3_ n4_ n5_ n6_ n7_ n8_ n9_ n10_ n11_; clear hb hbox hg; have hnb100 := NB343_329.out; have hnc100 := NB329_343.out; have hnb101 := NB343_332.out; have hnc101 := NB332_343.out; have hcz102_0 : w99.cell? ⟨gb343, 0, none⟩ = some (.int .i64 0) := (blk_cell BK343.out 0).trans rfl; have hcz102_1 : w99.cell? ⟨gb343, 1, none⟩ = some (.int .i64 0) := (blk_cell BK343.out 1).trans rfl; have hcz102_2 : w99.cell? ⟨gb343, 2, none⟩ = some (.int .i64 0) := (blk_cell BK343.out 2).trans rfl; have hcz102_3 : w99.cell? ⟨gb343, 3, none⟩ = some (.slice none 0 0) := (blk_cell BK343.out 3).trans rfl; have hfz102_0 := blk_frozen BK343.out 0; have hfz102_1 := blk_frozen BK343.out 1; have hfz102_2 := blk_frozen BK343.out 2; have hfz102_3 := blk_frozen BK343.out 3; obtain ⟨Ao103, co103, eo103⟩ := Kd.R_slice HO341.out; subst eo103; have hcz104_0 : w99.cell? ⟨gb329, 0, none⟩ = some (.int .i64 t322) := (blk_cell BK329.out 0).trans rfl; have hcz104_1 : w99.cell? ⟨gb329, 1, none⟩ = some (.int .i64 t323) := (blk_cell BK329.out 1).trans rfl; have hcz104_2 : w99.cell? ⟨gb329, 2, none⟩ = some (.int .i64 t324) := (blk_cell BK329.out 2).trans rfl; have hcz104_3 : w99.cell? ⟨gb329, 3, none⟩ = some (.slice Ao8 t325.length co8) := (blk_cell BK329.out 3).trans rfl; have hfz104_0 := blk_frozen BK329.out 0; have hfz104_1 := blk_frozen BK329.out 1; have hfz104_2 := blk_frozen BK329.out 2; have hfz104_3 := blk_frozen BK329.out 3))
              go_roundg kj15
              case measure => have := HJ3.out; have := HK2.out; have := HJ15.out; omega
              case rel => exact ⟨(wrap64 (x25_2 + 1)), zb5, H', ⟨by have := HJ3.out; have := HK2.out; have := HJ15.out; omega⟩, ⟨by (with_reducible repeat (first | apply Kd.R_alloc | apply Kd.R_drewN | apply Kd.R_drew)); exact Kd.R_mono (Kd.R_far (p := ⟨gb343, 3, none⟩) (Kd.R_far (p := ⟨gb343, 2, none⟩) (Kd.R_far (p := ⟨gb343, 1, none⟩) (Kd.R_far (p := ⟨gb343, 0, none⟩) (Kd.R_types HO_330003.out BK343.out (by decide)) (fun _ hk => hk.2) (.int .i64 t336)) (fun _ hk => hk.2) (.int .i64 t337)) (fun _ hk => hk.2) (.int .i64 t338)) (fun _ hk => hk.2) (.slice Ao103 t339.length co103)) (fun _ hk => trivial)⟩, ⟨by (with_reducible repeat (first | refine bN_ ?_ _ | refine bD_ ?_ | refine bA_ ?_ _)); refine blk_far ?_ NB329_343.out _; (with_reducible repeat (first | refine bN_ ?_ _ | refine bD_ ?_ | refine bA_ ?_ _)); refine blk_far ?_ NB329_343.out _; (with_reducible repeat (first | refine bN_ ?_ _ | refine bD_ ?_ | refine bA_ ?_ _)); refine blk_far ?_ NB329_343.out _; (with_reducible repeat (first | refine bN_ ?_ _ | refine bD_ ?_ | refine bA_ ?_ _)); refine blk_far ?_ NB329_343.out _; (with_reducible repeat (first | refine bN_ ?_ _ | refine bD_ ?_ | refine bA_ ?_ _)); exact BK329.out⟩, ⟨by repeat (first | (with_reducible first | exact HB.out | apply below_alloc | apply pw_below_drewN | apply below_drew1 | refine below_set ?_ GE329.out | refine below_set ?_ GE332.out | refine below_set ?_ GE343.out) | exact HB.out)⟩⟩
        ·rw [if_neg c15] at H
         exact absurd H (by simp)
       ·rw [if_neg c14] at H
        exact absurd H (by simp)
      ·rw [if_neg c13] at H
       have c13b0 : decide (x25_2 < (l1.length : Int)) = false := decide_eq_false c13
       clear c13
       obtain rfl := Option.some.inj H
       go_wp2
       go_ret
       exact ⟨zb6, by repeat (first | (with_reducible first | exact HB.out | apply below_alloc | apply pw_below_drewN | apply below_drew1 | refine below_set ?_ GE329.out) | exact HB.out)⟩

end Go.Proofs.YtbepbfibanmhoaaGreatDoor.G
end

section
-- PRINTED by print.py (a twelfth state) out of the translation. Not trusted: Lean checks it.
namespace Go.Proofs.YtbepbfibanmhoaaGreatDoor.G
open Go.RowKit Go.Proofs.YtbepbfibanmhoaaGreatDoorW.PrintWords Go.Proofs.YtbepbfibanmhoaaGreatDoorW.PrintLast Go.Proofs.YtbepbfibanmhoaaGreatDoorW.PrintMore
attribute [local go_sem] max2_int min2_int max_two min_two max_three min_three max_four min_four   -- for this text's walks alone
attribute [local go_sem high] Go.Proofs.YtbepbfibanmhoaaGreatDoor.G.str_gtr Go.Proofs.YtbepbfibanmhoaaGreatDoor.G.str_leq Go.Proofs.YtbepbfibanmhoaaGreatDoor.G.str_geq
set_option linter.unusedVariables false
set_option linter.unusedSimpArgs false

/-! ### laws_eqBound: function 34 -/
def laws_eqBound.f (a0_0 : ByteArray) (a0_1 : ByteArray) (a1_0 : ByteArray) (a1_1 : ByteArray) : Option (Bool) := if a0_0.toList = a1_0.toList then (if a0_1.toList = a1_1.toList then (some true) else (some false)) else (some false)
theorem laws_eqBound.zl1 {P : Prop} (h : P := by
 go_enter Tryz.func34, Tryz.ntmps34
 go_wp2_with (first | ((with_reducible refine gate_dst (N := 2) rfl ?_); refine box_event ?hg (N := 2) ?hd (cs := #[.string a0_0, .string a0_1]) (t := 55) ?hr ?_; (case hd => rfl); (case hg => rfl); (case hr => first | (go_simp; done) | (go_simp; rfl)); intro gb344 hg w10 hbox hb; have n0_ := Aside0.mk (below_step zb0 hb); have n1_ := Aside0.mk (hbox); have n2_ := Aside0.mk ((by rw [hg]; exact (below_size zb0) : w.heap.size ≤ gb344)); have n3_ := Aside0.mk ((by rw [hg]; exact (below_size zb0) : w.heap.size ≤ gb344)); clear HB; have HB := n0_; have BK344 := n1_; have GW344 := n2_; have GE344 := n3_; clear n0_ n1_ n2_ n3_; clear hb hbox hg) | ((with_reducible refine gate_dst (N := 3) rfl ?_); refine box_event ?hg (N := 3) ?hd (cs := #[.string a1_0, .string a1_1]) (t := 55) ?hr ?_; (case hd => rfl); (case hg => rfl); (case hr => first | (go_simp; done) | (go_simp; rfl)); intro gb345 hg w11 hbox hb; have n0_ := Aside0.mk (blk_below (g := gb344) (o := .cells #[.string a0_0, .string a0_1] 55 (0, 0)) (by (with_reducible repeat (first | refine bN_ ?_ _ | refine bD_ ?_ | refine bA_ ?_ _)); exact BK344.out) hb); have n1_ := Aside0.mk (below_step (by repeat (first | (with_reducible first | exact HB.out | apply below_alloc | apply pw_below_drewN | apply below_drew1 | refine below_set ?_ GE344.out) | exact HB.out)) hb); have n2_ := Aside0.mk (hbox); have n3_ := Aside0.mk ((by rw [hg]; exact (below_size (by repeat (first | (with_reducible first | exact HB.out | apply below_alloc | apply pw_below_drewN | apply below_drew1 | refine below_set ?_ GE344.out) | exact HB.out))) : w.heap.size ≤ gb345)); have n4_ := Aside0.mk ((by rw [hg]; exact (below_size (by repeat (first | (with_reducible first | exact HB.out | apply below_alloc | apply pw_below_drewN | apply below_drew1 | refine below_set ?_ GE344.out) | exact HB.out))) : w.heap.size ≤ gb345)); have n5_ := Aside0.mk ((by rw [hg]; exact Nat.ne_of_lt (blk_lt (g := gb344) (o := .cells #[.string a0_0, .string a0_1] 55 (0, 0)) (by (with_reducible repeat (first | refine bN_ ?_ _ | refine bD_ ?_ | refine bA_ ?_ _)); exact BK344.out)) : gb344 ≠ gb345)); have n6_ := Aside0.mk ((by rw [hg]; exact Nat.ne_of_gt (blk_lt (g := gb344) (o := .cells #[.string a0_0, .string a0_1] 55 (0, 0)) (by (with_reducible repeat (first | refine bN_ ?_ _ | refine bD_ ?_ | refine bA_ ?_ _)); exact BK344.out)) : gb345 ≠ gb344)); clear BK344; clear HB; have BK344 := n0_; have HB := n1_; have BK345 := n2_; have GW345 := n3_; have GE345 := n4_; have NB344_345 := n5_; have NB345_344 := n6_; clear n0_ n1_ n2_ n3_ n4_ n5_ n6_; clear hb hbox hg; have hnb12 := NB344_345.out; have hnc12 := NB345_344.out; have hcz13_0 : w11.cell? ⟨gb344, 0, none⟩ = some (.string a0_0) := (blk_cell BK344.out 0).trans rfl; have hcz13_1 : w11.cell? ⟨gb344, 1, none⟩ = some (.string a0_1) := (blk_cell BK344.out 1).trans rfl; have hfz13_0 := blk_frozen BK344.out 0; have hfz13_1 := blk_frozen BK344.out 1; have hcz14_0 : w11.cell? ⟨gb345, 0, none⟩ = some (.string a1_0) := (blk_cell BK345.out 0).trans rfl; have hcz14_1 : w11.cell? ⟨gb345, 1, none⟩ = some (.string a1_1) := (blk_cell BK345.out 1).trans rfl; have hfz14_0 := blk_frozen BK345.out 0; have hfz14_1 := blk_frozen BK345.out 1))
 go_ret
 exact ⟨zb6, by repeat (first | (with_reducible first | exact HB.out | apply below_alloc | apply pw_below_drewN | apply below_drew1 | refine below_set ?_ GE344.out | refine below_set ?_ GE345.out) | exact HB.out)⟩) : P := h
set_option maxHeartbeats 8000000 in
set_option maxRecDepth 100000 in
theorem laws_eqBound.calls (a0_0 : ByteArray) (a0_1 : ByteArray) (a1_0 : ByteArray) (a1_1 : ByteArray) (r : Bool) (w : World) (h : laws_eqBound.f a0_0 a0_1 a1_0 a1_1 = some r) :
  Calls Tryz.prog 34 #[.agg #[.string a0_0, .string a0_1], .agg #[.string a1_0, .string a1_1]] w fun e w' => e = .returned (.bool r) ∧ Below w.heap.size w w' := by
 have hu55 := Tryz.underlying55
 have HB := Aside0.mk (Below.refl w.heap.size w)
 have H : (if a0_0.toList = a1_0.toList then (if a0_1.toList = a1_1.toList then (some true) else (some false)) else (some false)) = some r := h
 clear h
 by_cases c3 : a0_0.toList = a1_0.toList
 ·rw [if_pos c3] at H
  have c3b0 : (a0_0.toList == a1_0.toList) = true := beq_iff_eq.mpr c3
  have c3b1 : (a0_0.toList != a1_0.toList) = false := bne_eq_false_iff_eq.mpr c3
  clear c3
  by_cases c4 : a0_1.toList = a1_1.toList
  ·rw [if_pos c4] at H
   have c4b0 : (a0_1.toList == a1_1.toList) = true := beq_iff_eq.mpr c4
   have c4b1 : (a0_1.toList != a1_1.toList) = false := bne_eq_false_iff_eq.mpr c4
   clear c4
   obtain rfl := Option.some.inj H
   exact laws_eqBound.zl1
  ·rw [if_neg c4] at H
   have c4b0 : (a0_1.toList == a1_1.toList) = false := beq_eq_false_iff_ne.mpr c4
   have c4b1 : (a0_1.toList != a1_1.toList) = true := bne_iff_ne.mpr c4
   obtain rfl := Option.some.inj H
   exact laws_eqBound.zl1
 ·rw [if_neg c3] at H
  have c3b0 : (a0_0.toList == a1_0.toList) = false := beq_eq_false_iff_ne.mpr c3
  have c3b1 : (a0_0.toList != a1_0.toList) = true := bne_iff_ne.mpr c3
  obtain rfl := Option.some.inj H
  exact laws_eqBound.zl1

end Go.Proofs.YtbepbfibanmhoaaGreatDoor.G
end

section
-- PRINTED by print.py (a twelfth state) out of the translation. Not trusted: Lean checks it.
namespace Go.Proofs.YtbepbfibanmhoaaGreatDoor.G
open Go.RowKit Go.Proofs.YtbepbfibanmhoaaGreatDoorW.PrintWords Go.Proofs.YtbepbfibanmhoaaGreatDoorW.PrintLast Go.Proofs.YtbepbfibanmhoaaGreatDoorW.PrintMore
attribute [local go_sem] max2_int min2_int max_two min_two max_three min_three max_four min_four   -- for this text's walks alone
attribute [local go_sem high] Go.Proofs.YtbepbfibanmhoaaGreatDoor.G.str_gtr Go.Proofs.YtbepbfibanmhoaaGreatDoor.G.str_leq Go.Proofs.YtbepbfibanmhoaaGreatDoor.G.str_geq
set_option linter.unusedVariables false
set_option linter.unusedSimpArgs false

/-! ### laws_eqBoundS: function 11 -/
def laws_eqBoundS.l0 : Nat → List (S55) → List (S55) → Int → Option (Bool)
 | 0, _, _, _ => none
 | k + 1, x0, x1, x5 => if x5 < (x0.length : Int) then (if 0 ≤ x5 then (if x5 < (x1.length : Int) then ((laws_eqBound.f ((rd_T55 x0 x5).f0) ((rd_T55 x0 x5).f1) ((rd_T55 x1 x5).f0) ((rd_T55 x1 x5).f1)).bind fun t348 => (if t348 = true then (laws_eqBoundS.l0 k x0 x1 (wrap64 (x5 + 1))) else (some false))) else (none)) else (none)) else (some true)
def laws_eqBoundS.f (k : Nat) (l0 : List (S55)) (l1 : List (S55)) : Option (Bool) := if (l0.length : Int) = (l1.length : Int) then (laws_eqBoundS.l0 k l0 l1 0) else (some false)
theorem laws_eqBoundS.mono_l : ∀ k, (∀ y0 y1 y2, LeO (laws_eqBoundS.l0 k y0 y1 y2) (laws_eqBoundS.l0 (k + 1) y0 y1 y2))
 | 0 => fun _ _ _ r h => by simp [laws_eqBoundS.l0] at h
 | k + 1 => by
  have ih0 := laws_eqBoundS.mono_l k
  ·intro y0 y1 y2
   unfold laws_eqBoundS.l0
   repeat' first
   | (with_reducible exact ih0 _ _ _)
   | (with_reducible exact LeO.refl _)
   | (with_reducible exact LeO.none _)
   | (with_reducible refine LeO.ite ?_ ?_)
   | (with_reducible refine LeO.bind ?_ (fun _ => ?_))
   | exact ih0 _ _ _
   | exact LeO.none _
   | refine LeO.ite ?_ ?_
   | refine LeO.bind ?_ (fun _ => ?_)
theorem laws_eqBoundS.mono : ∀ a0 a1 k, LeO (laws_eqBoundS.f k a0 a1) (laws_eqBoundS.f (k + 1) a0 a1) := by
 intro a0 a1 k
 have ih0 := laws_eqBoundS.mono_l k
 unfold laws_eqBoundS.f
 repeat' first
   | (with_reducible exact ih0 _ _ _)
   | (with_reducible exact LeO.refl _)
   | (with_reducible exact LeO.none _)
   | (with_reducible refine LeO.ite ?_ ?_)
   | (with_reducible refine LeO.bind ?_ (fun _ => ?_))
   | exact ih0 _ _ _
   | exact LeO.none _
   | refine LeO.ite ?_ ?_
   | refine LeO.bind ?_ (fun _ => ?_)
def laws_eqBoundS.T6 : Bool × List (List Nat × List Nat) := (true, [([], []), ([], []), ([0, 1], [0, 1]), ([2], [2]), ([], []), ([], []), ([4, 5], [4, 5]), ([6], [6]), ([3, 7], [3, 7]), ([8], [8])])
def laws_eqBoundS.B6 : List Nat := [0, 0, 3, 7, 0, 0, 48, 112, 255, 511]
theorem laws_eqBoundS.tab6 : rtab .any (opsOf Tryz.f11 6) = laws_eqBoundS.T6 := by kernel_rfl
theorem laws_eqBoundS.bits6 : waitsOk laws_eqBoundS.T6.2 laws_eqBoundS.B6 = true := by kernel_rfl
set_option maxHeartbeats 8000000 in
set_option maxRecDepth 100000 in
theorem laws_eqBoundS.calls (k : Nat) (A0 : Option Addr) (c0 : Nat) (l0 : List (S55)) (A1 : Option Addr) (c1 : Nat) (l1 : List (S55)) (r : Bool) (w : World) (hr0 : Kd.C k55 w A0 l0.length l0) (hc0 : l0.length ≤ c0) (hr1 : Kd.C k55 w A1 l1.length l1) (hc1 : l1.length ≤ c1) (h : laws_eqBoundS.f k l0 l1 = some r) :
  Calls Tryz.prog 11 #[.slice A0 l0.length c0, .slice A1 l1.length c1] w fun e w' => e = .returned (.bool r) ∧ Below w.heap.size w w' := by
 have hu55 := Tryz.underlying55
 have HR0 := Aside0.mk hr0
 have HC0 := Aside0.mk hc0
 clear hr0 hc0
 have HR1 := Aside0.mk hr1
 have HC1 := Aside0.mk hc1
 clear hr1 hc1
 have HB := Aside0.mk (Below.refl w.heap.size w)
 have H : (if (l0.length : Int) = (l1.length : Int) then (laws_eqBoundS.l0 k l0 l1 0) else (some false)) = some r := h
 clear h
 by_cases c3 : (l0.length : Int) = (l1.length : Int)
 ·rw [if_pos c3] at H
  have c3b0 : ((l0.length : Int) == (l1.length : Int)) = true := beq_iff_eq.mpr c3
  have c3b1 : ((l0.length : Int) != (l1.length : Int)) = false := bne_eq_false_iff_eq.mpr c3
  have c3b2 : (l0.length == l1.length) = true := by first | simpa using c3 | (simp at c3 ⊢; omega)
  clear c3
  have H' := Aside0.mk H
  clear H
  go_enter Tryz.func11, Tryz.ntmps11
  go_wp2
  go_loopg [5] k (fun kq v5 w' => ∃ (x5_1 : Int), v5 = .int .i64 x5_1 ∧ Aside0 (laws_eqBoundS.l0 kq l0 l1 x5_1 = some r) ∧ Aside0 (kq ≤ k) ∧ Aside0 (Below w.heap.size w w'))
  case atStart => exact ⟨(0), zb5, H', ⟨Nat.le_refl _⟩, ⟨by repeat (first | (with_reducible first | exact HB.out | apply below_alloc | apply pw_below_drewN | apply below_drew1) | exact HB.out)⟩⟩
  case round =>
   clear H'
   try clear c1
   try clear p2
   try clear c3
   try clear c3b0
   try clear c3b1
   try clear c3b2
   obtain ⟨x5_1, rfl, HA, HK1, HB⟩ := hrel
   cases gk with
   | zero => exact absurd HA.out (by simp [laws_eqBoundS.l0])
   | succ k1 =>
    have H := HA.out
    clear HA
    simp only [laws_eqBoundS.l0] at H
    by_cases c4 : x5_1 < (l0.length : Int)
    ·rw [if_pos c4] at H
     have c4b0 : decide (x5_1 < (l0.length : Int)) = true := decide_eq_true c4
     clear c4
     by_cases c5 : 0 ≤ x5_1
     ·rw [if_pos c5] at H
      have c5b0 : decide (0 ≤ x5_1) = true := decide_eq_true c5
      clear c5
      by_cases c6 : x5_1 < (l1.length : Int)
      ·rw [if_pos c6] at H
       have c6b0 : decide (x5_1 < (l1.length : Int)) = true := decide_eq_true c6
       clear c6
       replace H := Option.bind_eq_some_iff.mp H
       obtain ⟨t348, A70, H⟩ := H
       replace H : (if t348 = true then (laws_eqBoundS.l0 k1 l0 l1 (wrap64 (x5_1 + 1))) else (some false)) = some r := H
       have A7 := Aside0.mk A70
       clear A70
       by_cases c8 : t348 = true
       ·subst c8
        have H1 : (laws_eqBoundS.l0 k1 l0 l1 (wrap64 (x5_1 + 1))) = some r := by rw [if_pos rfl] at H; exact H
        clear H
        have H := H1
        clear H1
        have H' := Aside0.mk H
        clear H
        try go_wp2
        have n0_ := Aside0.mk (below_drew1 HB.out)
        clear HB
        have HB := n0_
        clear n0_
        have p346 : 0 ≤ (x5_1 : Int) := of_decide_eq_true zb4
        have q346 : x5_1 < (l0.length : Int) := of_decide_eq_true zb4
        obtain ⟨ad346, e346, hx346_0, hx346_1⟩ := at_T55 HR0.out x5_1 p346 q346
        have hw346_1 := hx346_1
        have hw346_0 := hx346_0
        cases e346
        replace hx346_0 := (HB.out.cell (World.block_lt_of_cell? w _ hx346_0)).trans hx346_0
        replace hx346_1 := (HB.out.cell (World.block_lt_of_cell? w _ hx346_1)).trans hx346_1
        replace p346 := eq_true p346
        replace q346 := eq_true q346
        have p347 : 0 ≤ (x5_1 : Int) := of_decide_eq_true zb4
        have q347 : x5_1 < (l1.length : Int) := of_decide_eq_true zb4
        obtain ⟨ad347, e347, hx347_0, hx347_1⟩ := at_T55 HR1.out x5_1 p347 q347
        have hw347_1 := hx347_1
        have hw347_0 := hx347_0
        cases e347
        replace hx347_0 := (HB.out.cell (World.block_lt_of_cell? w _ hx347_0)).trans hx347_0
        replace hx347_1 := (HB.out.cell (World.block_lt_of_cell? w _ hx347_1)).trans hx347_1
        replace p347 := eq_true p347
        replace q347 := eq_true q347
        refine start_ (n := 10) (S := fun w' => w'.cell? (ad346.add ((x5_1).toNat * 2)) = some (.string ((rd_T55 l0 x5_1).f0)) ∧ w'.cell? ⟨(ad346.add ((x5_1).toNat * 2)).block, (ad346.add ((x5_1).toNat * 2)).off + 1, none⟩ = some (.string ((rd_T55 l0 x5_1).f1)) ∧ w'.cell? (ad347.add ((x5_1).toNat * 2)) = some (.string ((rd_T55 l1 x5_1).f0)) ∧ w'.cell? ⟨(ad347.add ((x5_1).toNat * 2)).block, (ad347.add ((x5_1).toNat * 2)).off + 1, none⟩ = some (.string ((rd_T55 l1 x5_1).f1))) (ds := []) #[false, false, false, false, false, false, false, false, false, false] (by kernel_rfl) rfl rfl ⟨((HB.out.cell (World.block_lt_of_cell? w _ hw346_0)).trans hw346_0), ((HB.out.cell (World.block_lt_of_cell? w _ hw346_1)).trans hw346_1), ((HB.out.cell (World.block_lt_of_cell? w _ hw347_0)).trans hw347_0), ((HB.out.cell (World.block_lt_of_cell? w _ hw347_1)).trans hw347_1)⟩ (fun hHeld => ?_); refine with_tabW laws_eqBoundS.tab6 laws_eqBoundS.bits6 (fun HT_ HW_ => ?_)
        generalize wr.drew = w9 at HB hx346_0 hx346_1 hx347_0 hx347_1 hHeld ⊢
        refine pure_ (i := 0) (N := some 17) (v := ?_) (a' := ?_) #[true, false, false, false, false, false, false, false, false, false] rfl rfl (any_of HT_.out (by kernel_rfl)) (fun _ _ _ h => h) (Or.inl ⟨by rfl, ?_⟩) ?_ ?_
        rotate_left
        ·intro w'
         go_simp
         with_reducible rfl
        rotate_left
        ·simp only [Act.put, List.setIfInBounds_toArray, List.set_cons_zero, List.set_cons_succ, i64_w, i32_w]
         rfl
        refine pure_ (i := 1) (N := some 18) (v := ?_) (a' := ?_) #[true, true, false, false, false, false, false, false, false, false] rfl rfl (any_of HT_.out (by kernel_rfl)) (fun _ _ _ h => h) (Or.inl ⟨by rfl, ?_⟩) ?_ ?_
        rotate_left
        ·intro w'
         go_simp
         with_reducible rfl
        rotate_left
        ·simp only [Act.put, List.setIfInBounds_toArray, List.set_cons_zero, List.set_cons_succ, i64_w, i32_w]
         rfl
        refine pure_ (i := 2) (N := some 19) (v := ?_) (a' := ?_) #[true, true, true, false, false, false, false, false, false, false] rfl rfl (any_of HT_.out (by kernel_rfl)) (fun _ _ _ h => h) (Or.inl ⟨by rfl, ?_⟩) ?_ ?_
        rotate_left
        ·intro w'
         go_simp
         with_reducible rfl
        rotate_left
        ·simp only [Act.put, List.setIfInBounds_toArray, List.set_cons_zero, List.set_cons_succ, i64_w, i32_w]
         rfl
        refine pure_ (i := 4) (N := some 21) (v := ?_) (a' := ?_) #[true, true, true, false, true, false, false, false, false, false] rfl rfl (any_of HT_.out (by kernel_rfl)) (fun _ _ _ h => h) (Or.inl ⟨by rfl, ?_⟩) ?_ ?_
        rotate_left
        ·intro w'
         go_simp
         with_reducible rfl
        rotate_left
        ·simp only [Act.put, List.setIfInBounds_toArray, List.set_cons_zero, List.set_cons_succ, i64_w, i32_w]
         rfl
        refine pure_ (i := 5) (N := some 22) (v := ?_) (a' := ?_) #[true, true, true, false, true, true, false, false, false, false] rfl rfl (any_of HT_.out (by kernel_rfl)) (fun _ _ _ h => h) (Or.inl ⟨by rfl, ?_⟩) ?_ ?_
        rotate_left
        ·intro w'
         go_simp
         with_reducible rfl
        rotate_left
        ·simp only [Act.put, List.setIfInBounds_toArray, List.set_cons_zero, List.set_cons_succ, i64_w, i32_w]
         rfl
        refine pure_ (i := 6) (N := some 23) (v := ?_) (a' := ?_) #[true, true, true, false, true, true, true, false, false, false] rfl rfl (any_of HT_.out (by kernel_rfl)) (fun _ _ _ h => h) (Or.inl ⟨by rfl, ?_⟩) ?_ ?_
        rotate_left
        ·intro w'
         go_simp
         with_reducible rfl
        rotate_left
        ·simp only [Act.put, List.setIfInBounds_toArray, List.set_cons_zero, List.set_cons_succ, i64_w, i32_w]
         rfl
        refine take_ (i := 3) (N := some 20) (v := ?_) (a' := ?_) #[true, true, true, true, true, true, true, false, false, false] rfl rfl (take_ofW HT_.out HW_.out (by kernel_rfl)) (fun _ _ _ h => h) (Or.inl ⟨by rfl, ?_⟩) hHeld ?_ ?_
        rotate_left
        ·rintro w' ⟨s0, s1, s2, s3⟩
         go_simp
         with_reducible rfl
        rotate_left
        ·simp only [Act.put, List.setIfInBounds_toArray, List.set_cons_zero, List.set_cons_succ, i64_w, i32_w]
         rfl
        refine take_ (i := 7) (N := some 24) (v := ?_) (a' := ?_) #[true, true, true, true, true, true, true, true, false, false] rfl rfl (take_ofW HT_.out HW_.out (by kernel_rfl)) (fun _ _ _ h => h) (Or.inl ⟨by rfl, ?_⟩) hHeld ?_ ?_
        rotate_left
        ·rintro w' ⟨s0, s1, s2, s3⟩
         go_simp
         with_reducible rfl
        rotate_left
        ·simp only [Act.put, List.setIfInBounds_toArray, List.set_cons_zero, List.set_cons_succ, i64_w, i32_w]
         rfl
        refine one_ (i := 8) (N := some 25) #[true, true, true, true, true, true, true, true, true, false] rfl rfl (one_of HT_.out (by kernel_rfl)) (by decide) (fun K hK => ?_)
        refine goes_ Tryz.func34 (by kernel_rfl) rfl #[.agg #[.string ((rd_T55 l0 x5_1).f0), .string ((rd_T55 l0 x5_1).f1)], .agg #[.string ((rd_T55 l1 x5_1).f0), .string ((rd_T55 l1 x5_1).f1)]] (by rfl) rfl rfl zb1 ?_
        with_reducible refine (laws_eqBound.calls ((rd_T55 l0 x5_1).f0) ((rd_T55 l0 x5_1).f1) ((rd_T55 l1 x5_1).f0) ((rd_T55 l1 x5_1).f1) true _ A7.out).mono ?_
        rintro e w10 ⟨rfl, hb⟩
        refine ⟨_, rfl, ?_⟩
        have n0_ := Aside0.mk (below_step zb0 hb)
        clear HB
        have HB := n0_
        clear n0_
        (try clear hb)
        (try clear hb2)
        (try clear hk)
        (try clear hi)
        refine hK.out _ _ ⟨((HB.out.cell (World.block_lt_of_cell? w _ hw346_0)).trans hw346_0), ((HB.out.cell (World.block_lt_of_cell? w _ hw346_1)).trans hw346_1), ((HB.out.cell (World.block_lt_of_cell? w _ hw347_0)).trans hw347_0), ((HB.out.cell (World.block_lt_of_cell? w _ hw347_1)).trans hw347_1)⟩ (fun hHeld => ?_)
        clear hK K
        refine norm_ (a' := ?_) ?_ ?_
        rotate_left
        ·show Act.put _ (some 25) _ = _
         simp only [Act.put, List.setIfInBounds_toArray, List.set_cons_zero, List.set_cons_succ, i64_w, i32_w]
         rfl
        refine pure_ (i := 9) (N := some 26) (v := ?_) (a' := ?_) #[true, true, true, true, true, true, true, true, true, true] rfl rfl (any_of HT_.out (by kernel_rfl)) (fun _ _ _ h => h) (Or.inl ⟨by rfl, ?_⟩) ?_ ?_
        rotate_left
        ·intro w'
         go_simp
         with_reducible rfl
        rotate_left
        ·simp only [Act.put, List.setIfInBounds_toArray, List.set_cons_zero, List.set_cons_succ, i64_w, i32_w]
         rfl
        refine done_ (done_of HT_.out (by kernel_rfl)) ?_
        try go_wp2
        go_roundg k1
        case measure => have := HK1.out; omega
        case rel => exact ⟨(wrap64 (x5_1 + 1)), zb5, H', ⟨by have := HK1.out; omega⟩, ⟨by repeat (first | (with_reducible first | exact HB.out | apply below_alloc | apply pw_below_drewN | apply below_drew1) | exact HB.out)⟩⟩
       ·replace c8 := Bool.eq_false_iff.mpr c8
        subst c8
        have H1 : (some false) = some r := by rw [if_neg (show ¬ (false = true) by decide)] at H; exact H
        clear H
        have H := H1
        clear H1
        obtain rfl := Option.some.inj H
        try go_wp2
        have n0_ := Aside0.mk (below_drew1 HB.out)
        clear HB
        have HB := n0_
        clear n0_
        have p346 : 0 ≤ (x5_1 : Int) := of_decide_eq_true zb4
        have q346 : x5_1 < (l0.length : Int) := of_decide_eq_true zb4
        obtain ⟨ad346, e346, hx346_0, hx346_1⟩ := at_T55 HR0.out x5_1 p346 q346
        have hw346_1 := hx346_1
        have hw346_0 := hx346_0
        cases e346
        replace hx346_0 := (HB.out.cell (World.block_lt_of_cell? w _ hx346_0)).trans hx346_0
        replace hx346_1 := (HB.out.cell (World.block_lt_of_cell? w _ hx346_1)).trans hx346_1
        replace p346 := eq_true p346
        replace q346 := eq_true q346
        have p347 : 0 ≤ (x5_1 : Int) := of_decide_eq_true zb4
        have q347 : x5_1 < (l1.length : Int) := of_decide_eq_true zb4
        obtain ⟨ad347, e347, hx347_0, hx347_1⟩ := at_T55 HR1.out x5_1 p347 q347
        have hw347_1 := hx347_1
        have hw347_0 := hx347_0
        cases e347
        replace hx347_0 := (HB.out.cell (World.block_lt_of_cell? w _ hx347_0)).trans hx347_0
        replace hx347_1 := (HB.out.cell (World.block_lt_of_cell? w _ hx347_1)).trans hx347_1
        replace p347 := eq_true p347
        replace q347 := eq_true q347
        refine start_ (n := 10) (S := fun w' => w'.cell? (ad346.add ((x5_1).toNat * 2)) = some (.string ((rd_T55 l0 x5_1).f0)) ∧ w'.cell? ⟨(ad346.add ((x5_1).toNat * 2)).block, (ad346.add ((x5_1).toNat * 2)).off + 1, none⟩ = some (.string ((rd_T55 l0 x5_1).f1)) ∧ w'.cell? (ad347.add ((x5_1).toNat * 2)) = some (.string ((rd_T55 l1 x5_1).f0)) ∧ w'.cell? ⟨(ad347.add ((x5_1).toNat * 2)).block, (ad347.add ((x5_1).toNat * 2)).off + 1, none⟩ = some (.string ((rd_T55 l1 x5_1).f1))) (ds := []) #[false, false, false, false, false, false, false, false, false, false] (by kernel_rfl) rfl rfl ⟨((HB.out.cell (World.block_lt_of_cell? w _ hw346_0)).trans hw346_0), ((HB.out.cell (World.block_lt_of_cell? w _ hw346_1)).trans hw346_1), ((HB.out.cell (World.block_lt_of_cell? w _ hw347_0)).trans hw347_0), ((HB.out.cell (World.block_lt_of_cell? w _ hw347_1)).trans hw347_1)⟩ (fun hHeld => ?_); refine with_tabW laws_eqBoundS.tab6 laws_eqBoundS.bits6 (fun HT_ HW_ => ?_)
        generalize wr.drew = w11 at HB hx346_0 hx346_1 hx347_0 hx347_1 hHeld ⊢
        refine pure_ (i := 0) (N := some 17) (v := ?_) (a' := ?_) #[true, false, false, false, false, false, false, false, false, false] rfl rfl (any_of HT_.out (by kernel_rfl)) (fun _ _ _ h => h) (Or.inl ⟨by rfl, ?_⟩) ?_ ?_
        rotate_left
        ·intro w'
         go_simp
         with_reducible rfl
        rotate_left
        ·simp only [Act.put, List.setIfInBounds_toArray, List.set_cons_zero, List.set_cons_succ, i64_w, i32_w]
         rfl
        refine pure_ (i := 1) (N := some 18) (v := ?_) (a' := ?_) #[true, true, false, false, false, false, false, false, false, false] rfl rfl (any_of HT_.out (by kernel_rfl)) (fun _ _ _ h => h) (Or.inl ⟨by rfl, ?_⟩) ?_ ?_
        rotate_left
        ·intro w'
         go_simp
         with_reducible rfl
        rotate_left
        ·simp only [Act.put, List.setIfInBounds_toArray, List.set_cons_zero, List.set_cons_succ, i64_w, i32_w]
         rfl
        refine pure_ (i := 2) (N := some 19) (v := ?_) (a' := ?_) #[true, true, true, false, false, false, false, false, false, false] rfl rfl (any_of HT_.out (by kernel_rfl)) (fun _ _ _ h => h) (Or.inl ⟨by rfl, ?_⟩) ?_ ?_
        rotate_left
        ·intro w'
         go_simp
         with_reducible rfl
        rotate_left
        ·simp only [Act.put, List.setIfInBounds_toArray, List.set_cons_zero, List.set_cons_succ, i64_w, i32_w]
         rfl
        refine pure_ (i := 4) (N := some 21) (v := ?_) (a' := ?_) #[true, true, true, false, true, false, false, false, false, false] rfl rfl (any_of HT_.out (by kernel_rfl)) (fun _ _ _ h => h) (Or.inl ⟨by rfl, ?_⟩) ?_ ?_
        rotate_left
        ·intro w'
         go_simp
         with_reducible rfl
        rotate_left
        ·simp only [Act.put, List.setIfInBounds_toArray, List.set_cons_zero, List.set_cons_succ, i64_w, i32_w]
         rfl
        refine pure_ (i := 5) (N := some 22) (v := ?_) (a' := ?_) #[true, true, true, false, true, true, false, false, false, false] rfl rfl (any_of HT_.out (by kernel_rfl)) (fun _ _ _ h => h) (Or.inl ⟨by rfl, ?_⟩) ?_ ?_
        rotate_left
        ·intro w'
         go_simp
         with_reducible rfl
        rotate_left
        ·simp only [Act.put, List.setIfInBounds_toArray, List.set_cons_zero, List.set_cons_succ, i64_w, i32_w]
         rfl
        refine pure_ (i := 6) (N := some 23) (v := ?_) (a' := ?_) #[true, true, true, false, true, true, true, false, false, false] rfl rfl (any_of HT_.out (by kernel_rfl)) (fun _ _ _ h => h) (Or.inl ⟨by rfl, ?_⟩) ?_ ?_
        rotate_left
        ·intro w'
         go_simp
         with_reducible rfl
        rotate_left
        ·simp only [Act.put, List.setIfInBounds_toArray, List.set_cons_zero, List.set_cons_succ, i64_w, i32_w]
         rfl
        refine take_ (i := 3) (N := some 20) (v := ?_) (a' := ?_) #[true, true, true, true, true, true, true, false, false, false] rfl rfl (take_ofW HT_.out HW_.out (by kernel_rfl)) (fun _ _ _ h => h) (Or.inl ⟨by rfl, ?_⟩) hHeld ?_ ?_
        rotate_left
        ·rintro w' ⟨s0, s1, s2, s3⟩
         go_simp
         with_reducible rfl
        rotate_left
        ·simp only [Act.put, List.setIfInBounds_toArray, List.set_cons_zero, List.set_cons_succ, i64_w, i32_w]
         rfl
        refine take_ (i := 7) (N := some 24) (v := ?_) (a' := ?_) #[true, true, true, true, true, true, true, true, false, false] rfl rfl (take_ofW HT_.out HW_.out (by kernel_rfl)) (fun _ _ _ h => h) (Or.inl ⟨by rfl, ?_⟩) hHeld ?_ ?_
        rotate_left
        ·rintro w' ⟨s0, s1, s2, s3⟩
         go_simp
         with_reducible rfl
        rotate_left
        ·simp only [Act.put, List.setIfInBounds_toArray, List.set_cons_zero, List.set_cons_succ, i64_w, i32_w]
         rfl
        refine one_ (i := 8) (N := some 25) #[true, true, true, true, true, true, true, true, true, false] rfl rfl (one_of HT_.out (by kernel_rfl)) (by decide) (fun K hK => ?_)
        refine goes_ Tryz.func34 (by kernel_rfl) rfl #[.agg #[.string ((rd_T55 l0 x5_1).f0), .string ((rd_T55 l0 x5_1).f1)], .agg #[.string ((rd_T55 l1 x5_1).f0), .string ((rd_T55 l1 x5_1).f1)]] (by rfl) rfl rfl zb1 ?_
        with_reducible refine (laws_eqBound.calls ((rd_T55 l0 x5_1).f0) ((rd_T55 l0 x5_1).f1) ((rd_T55 l1 x5_1).f0) ((rd_T55 l1 x5_1).f1) false _ A7.out).mono ?_
        rintro e w12 ⟨rfl, hb⟩
        refine ⟨_, rfl, ?_⟩
        have n0_ := Aside0.mk (below_step zb0 hb)
        clear HB
        have HB := n0_
        clear n0_
        (try clear hb)
        (try clear hb2)
        (try clear hk)
        (try clear hi)
        refine hK.out _ _ ⟨((HB.out.cell (World.block_lt_of_cell? w _ hw346_0)).trans hw346_0), ((HB.out.cell (World.block_lt_of_cell? w _ hw346_1)).trans hw346_1), ((HB.out.cell (World.block_lt_of_cell? w _ hw347_0)).trans hw347_0), ((HB.out.cell (World.block_lt_of_cell? w _ hw347_1)).trans hw347_1)⟩ (fun hHeld => ?_)
        clear hK K
        refine norm_ (a' := ?_) ?_ ?_
        rotate_left
        ·show Act.put _ (some 25) _ = _
         simp only [Act.put, List.setIfInBounds_toArray, List.set_cons_zero, List.set_cons_succ, i64_w, i32_w]
         rfl
        refine pure_ (i := 9) (N := some 26) (v := ?_) (a' := ?_) #[true, true, true, true, true, true, true, true, true, true] rfl rfl (any_of HT_.out (by kernel_rfl)) (fun _ _ _ h => h) (Or.inl ⟨by rfl, ?_⟩) ?_ ?_
        rotate_left
        ·intro w'
         go_simp
         with_reducible rfl
        rotate_left
        ·simp only [Act.put, List.setIfInBounds_toArray, List.set_cons_zero, List.set_cons_succ, i64_w, i32_w]
         rfl
        refine done_ (done_of HT_.out (by kernel_rfl)) ?_
        try go_wp2
        go_ret
        exact ⟨zb6, by repeat (first | (with_reducible first | exact HB.out | apply below_alloc | apply pw_below_drewN | apply below_drew1) | exact HB.out)⟩
      ·rw [if_neg c6] at H
       exact absurd H (by simp)
     ·rw [if_neg c5] at H
      exact absurd H (by simp)
    ·rw [if_neg c4] at H
     have c4b0 : decide (x5_1 < (l0.length : Int)) = false := decide_eq_false c4
     clear c4
     obtain rfl := Option.some.inj H
     go_wp2
     go_ret
     exact ⟨zb6, by repeat (first | (with_reducible first | exact HB.out | apply below_alloc | apply pw_below_drewN | apply below_drew1) | exact HB.out)⟩
 ·rw [if_neg c3] at H
  have c3b0 : ((l0.length : Int) == (l1.length : Int)) = false := beq_eq_false_iff_ne.mpr c3
  have c3b1 : ((l0.length : Int) != (l1.length : Int)) = true := bne_iff_ne.mpr c3
  have c3b2 : (l0.length == l1.length) = false := by first | simpa using c3 | (simp at c3 ⊢; omega)
  obtain rfl := Option.some.inj H
  go_enter Tryz.func11, Tryz.ntmps11
  go_wp2
  go_ret
  exact ⟨zb6, by repeat (first | (with_reducible first | exact HB.out | apply below_alloc | apply pw_below_drewN | apply below_drew1) | exact HB.out)⟩

end Go.Proofs.YtbepbfibanmhoaaGreatDoor.G
end

section
-- PRINTED by print.py (a twelfth state) out of the translation. Not trusted: Lean checks it.
namespace Go.Proofs.YtbepbfibanmhoaaGreatDoor.G
open Go.RowKit Go.Proofs.YtbepbfibanmhoaaGreatDoorW.PrintWords Go.Proofs.YtbepbfibanmhoaaGreatDoorW.PrintLast Go.Proofs.YtbepbfibanmhoaaGreatDoorW.PrintMore
attribute [local go_sem] max2_int min2_int max_two min_two max_three min_three max_four min_four   -- for this text's walks alone
attribute [local go_sem high] Go.Proofs.YtbepbfibanmhoaaGreatDoor.G.str_gtr Go.Proofs.YtbepbfibanmhoaaGreatDoor.G.str_leq Go.Proofs.YtbepbfibanmhoaaGreatDoor.G.str_geq
set_option linter.unusedVariables false
set_option linter.unusedSimpArgs false

/-! ### laws_FnExactIn: function 3 -/
def laws_FnExactIn.f (k : Nat) (a0 : ByteArray) (l1 : List (S48)) : Option (Bool) := if (a0.size : Int) > 1048576 then (some true) else ((laws_szBoundS.f k l1 1048576).bind fun t349 => (if t349 < 0 then (some true) else ((laws_toBoundS.f k l1).bind fun t350 => ((spec_In.f k a0 t350).bind fun t353 => ((laws_toBoundS.f k l1).bind fun t354 => ((impl_In.f k a0 t354).bind fun t357 => (if (t357 != t353) = true then (some false) else ((laws_toBoundS.f k l1).bind fun t358 => ((laws_eqBoundS.f k t354 t358).bind fun t361 => (if t361 = true then (some true) else (some false)))))))))))
theorem laws_FnExactIn.mono : ∀ a0 a1 k, LeO (laws_FnExactIn.f k a0 a1) (laws_FnExactIn.f (k + 1) a0 a1) := by
 intro a0 a1 k
 unfold laws_FnExactIn.f
 repeat' first
   | (with_reducible exact impl_In.mono _ _ _)
   | (with_reducible exact laws_eqBoundS.mono _ _ _)
   | (with_reducible exact laws_szBoundS.mono _ _ _)
   | (with_reducible exact laws_toBoundS.mono _ _)
   | (with_reducible exact spec_In.mono _ _ _)
   | (with_reducible exact LeO.refl _)
   | (with_reducible exact LeO.none _)
   | (with_reducible refine LeO.ite ?_ ?_)
   | (with_reducible refine LeO.bind ?_ (fun _ => ?_))
   | exact impl_In.mono _ _ _
   | exact laws_eqBoundS.mono _ _ _
   | exact laws_szBoundS.mono _ _ _
   | exact laws_toBoundS.mono _ _
   | exact spec_In.mono _ _ _
   | exact LeO.none _
   | refine LeO.ite ?_ ?_
   | refine LeO.bind ?_ (fun _ => ?_)
set_option maxHeartbeats 8000000 in
set_option maxRecDepth 100000 in
theorem laws_FnExactIn.calls (k : Nat) (a0 : ByteArray) (A1 : Option Addr) (c1 : Nat) (l1 : List (S48)) (r : Bool) (w : World) (hr1 : Kd.C k48 w A1 l1.length l1) (hc1 : l1.length ≤ c1) (hGE : Glob FactE w) (hGM : Glob FactM w) (hGT : Glob FactT w) (hr_ : r = true) (h : laws_FnExactIn.f k a0 l1 = some r) :
  Calls Tryz.prog 3 #[.string a0, .slice A1 l1.length c1] w fun e w' => e = .returned (.bool r) ∧ Below w.heap.size w w' := by
 have HR1 := Aside0.mk hr1
 have HC1 := Aside0.mk hc1
 clear hr1 hc1
 have HB := Aside0.mk (Below.refl w.heap.size w)
 have HGE := Aside0.mk hGE
 clear hGE
 have HGM := Aside0.mk hGM
 clear hGM
 have HGT := Aside0.mk hGT
 clear hGT
 have H : (if (a0.size : Int) > 1048576 then (some true) else ((laws_szBoundS.f k l1 1048576).bind fun t349 => (if t349 < 0 then (some true) else ((laws_toBoundS.f k l1).bind fun t350 => ((spec_In.f k a0 t350).bind fun t353 => ((laws_toBoundS.f k l1).bind fun t354 => ((impl_In.f k a0 t354).bind fun t357 => (if (t357 != t353) = true then (some false) else ((laws_toBoundS.f k l1).bind fun t358 => ((laws_eqBoundS.f k t354 t358).bind fun t361 => (if t361 = true then (some true) else (some false)))))))))))) = some r := h
 clear h
 by_cases c3 : (a0.size : Int) > 1048576
 ·rw [if_pos c3] at H
  have c3b0 : decide (1048576 < (a0.size : Int)) = true := decide_eq_true c3
  have c3b1 : decide (1048576 < a0.size) = true := decide_eq_true (by omega)
  clear c3
  obtain rfl := Option.some.inj H
  go_enter Tryz.func3, Tryz.ntmps3
  go_wp2
  go_ret
  exact ⟨zb6, by repeat (first | (with_reducible first | exact HB.out | apply below_alloc | apply pw_below_drewN | apply below_drew1) | exact HB.out)⟩
 ·rw [if_neg c3] at H
  have c3b0 : decide (1048576 < (a0.size : Int)) = false := decide_eq_false c3
  have c3b1 : decide (1048576 < a0.size) = false := decide_eq_false (by omega)
  clear c3
  replace H := Option.bind_eq_some_iff.mp H
  obtain ⟨t349, A40, H⟩ := H
  replace H : (if t349 < 0 then (some true) else ((laws_toBoundS.f k l1).bind fun t350 => ((spec_In.f k a0 t350).bind fun t353 => ((laws_toBoundS.f k l1).bind fun t354 => ((impl_In.f k a0 t354).bind fun t357 => (if (t357 != t353) = true then (some false) else ((laws_toBoundS.f k l1).bind fun t358 => ((laws_eqBoundS.f k t354 t358).bind fun t361 => (if t361 = true then (some true) else (some false)))))))))) = some r := H
  have A4 := Aside0.mk A40
  clear A40
  by_cases c5 : t349 < 0
  ·rw [if_pos c5] at H
   have c5b0 : decide (t349 < 0) = true := decide_eq_true c5
   clear c5
   obtain rfl := Option.some.inj H
   go_enter Tryz.func3, Tryz.ntmps3
   go_wp2_with (first | ((with_reducible refine gate_callee (f := 7) rfl ?_); refine goesL_ (some 14) rfl rfl Tryz.func7 (by kernel_rfl) rfl #[.slice A1 l1.length c1, .int .i64 1048576] rfl zb1 ?_; (with_reducible refine (laws_szBoundS.calls k _ _ l1 1048576 t349 _ ?side1 ?side2 A4.out).mono ?_); (case side1 => repeat (first | exact HR1.out | (with_reducible refine Kd.C_alloc ?_ _) | (with_reducible refine Kd.C_drewN ?_ _) | (with_reducible refine Kd.C_drew ?_))); (case side2 => exact HC1.out); rintro e w6 ⟨rfl, hb⟩; refine ⟨_, rfl, ?_⟩; have n0_ := Aside0.mk (below_step zb0 hb); clear HB; have HB := n0_; clear n0_; (try clear hb); (try clear hb2); (try clear hk); (try clear hi)))
   go_ret
   exact ⟨zb6, by repeat (first | (with_reducible first | exact HB.out | apply below_alloc | apply pw_below_drewN | apply below_drew1) | exact HB.out)⟩
  ·rw [if_neg c5] at H
   have c5b0 : decide (t349 < 0) = false := decide_eq_false c5
   clear c5
   replace H := Option.bind_eq_some_iff.mp H
   obtain ⟨t350, A70, H⟩ := H
   replace H : ((spec_In.f k a0 t350).bind fun t353 => ((laws_toBoundS.f k l1).bind fun t354 => ((impl_In.f k a0 t354).bind fun t357 => (if (t357 != t353) = true then (some false) else ((laws_toBoundS.f k l1).bind fun t358 => ((laws_eqBoundS.f k t354 t358).bind fun t361 => (if t361 = true then (some true) else (some false)))))))) = some r := H
   have A7 := Aside0.mk A70
   clear A70
   replace H := Option.bind_eq_some_iff.mp H
   obtain ⟨t353, A80, H⟩ := H
   replace H : ((laws_toBoundS.f k l1).bind fun t354 => ((impl_In.f k a0 t354).bind fun t357 => (if (t357 != t353) = true then (some false) else ((laws_toBoundS.f k l1).bind fun t358 => ((laws_eqBoundS.f k t354 t358).bind fun t361 => (if t361 = true then (some true) else (some false))))))) = some r := H
   have A8 := Aside0.mk A80
   clear A80
   replace H := Option.bind_eq_some_iff.mp H
   obtain ⟨t354, A90, H⟩ := H
   replace H : ((impl_In.f k a0 t354).bind fun t357 => (if (t357 != t353) = true then (some false) else ((laws_toBoundS.f k l1).bind fun t358 => ((laws_eqBoundS.f k t354 t358).bind fun t361 => (if t361 = true then (some true) else (some false)))))) = some r := H
   have A9 := Aside0.mk A90
   clear A90
   replace H := Option.bind_eq_some_iff.mp H
   obtain ⟨t357, A100, H⟩ := H
   replace H : (if (t357 != t353) = true then (some false) else ((laws_toBoundS.f k l1).bind fun t358 => ((laws_eqBoundS.f k t354 t358).bind fun t361 => (if t361 = true then (some true) else (some false))))) = some r := H
   have A10 := Aside0.mk A100
   clear A100
   by_cases c11 : (t357 != t353) = true
   ·rw [if_pos c11] at H
    have c11b0 : (t357 != t353) = true := c11
    (try (have c11b1 : decide (t357 = t353) = false := by simpa using c11))
    (try (have c11b2 : (t357 == t353) = false := by simpa using c11))
    (try (have c11b3 : ¬ (t357 = t353) := by simpa using c11))
    clear c11
    exact absurd ((Option.some.inj H).trans hr_) (by decide)
   ·rw [if_neg c11] at H
    have c11b0 : (t357 != t353) = false := by simpa using c11
    (try (have c11b1 : decide (t357 = t353) = true := by simpa using c11))
    (try (have c11b2 : (t357 == t353) = true := by simpa using c11))
    clear c11
    replace H := Option.bind_eq_some_iff.mp H
    obtain ⟨t358, A120, H⟩ := H
    replace H : ((laws_eqBoundS.f k t354 t358).bind fun t361 => (if t361 = true then (some true) else (some false))) = some r := H
    have A12 := Aside0.mk A120
    clear A120
    replace H := Option.bind_eq_some_iff.mp H
    obtain ⟨t361, A130, H⟩ := H
    replace H : (if t361 = true then (some true) else (some false)) = some r := H
    have A13 := Aside0.mk A130
    clear A130
    by_cases c14 : t361 = true
    ·subst c14
     have H1 : (some true) = some r := by rw [if_pos rfl] at H; exact H
     clear H
     have H := H1
     clear H1
     obtain rfl := Option.some.inj H
     go_enter Tryz.func3, Tryz.ntmps3
     go_wp2_with (first | ((with_reducible refine gate_callee (f := 7) rfl ?_); refine goesL_ (some 14) rfl rfl Tryz.func7 (by kernel_rfl) rfl #[.slice A1 l1.length c1, .int .i64 1048576] rfl zb1 ?_; (with_reducible refine (laws_szBoundS.calls k _ _ l1 1048576 t349 _ ?side1 ?side2 A4.out).mono ?_); (case side1 => repeat (first | exact HR1.out | (with_reducible refine Kd.C_alloc ?_ _) | (with_reducible refine Kd.C_drewN ?_ _) | (with_reducible refine Kd.C_drew ?_))); (case side2 => exact HC1.out); rintro e w15 ⟨rfl, hb⟩; refine ⟨_, rfl, ?_⟩; have n0_ := Aside0.mk (below_step zb0 hb); clear HB; have HB := n0_; clear n0_; (try clear hb); (try clear hb2); (try clear hk); (try clear hi)) | ((with_reducible refine gate_callee (f := 9) rfl ?_); refine goesL_ (some 19) rfl rfl Tryz.func9 (by kernel_rfl) rfl #[.slice A1 l1.length c1] rfl zb1 ?_; (with_reducible refine (laws_toBoundS.calls k _ _ l1 t350 _ ?side1 ?side2 A7.out).mono ?_); (case side1 => repeat (first | exact (Kd.C_below HR1.out HB.out) | (with_reducible refine Kd.C_alloc ?_ _) | (with_reducible refine Kd.C_drewN ?_ _) | (with_reducible refine Kd.C_drew ?_))); (case side2 => exact HC1.out); rintro e w16 ⟨v351, rfl, ho0, hb⟩; refine ⟨_, rfl, ?_⟩; have n0_ := Aside0.mk (Kd.R_lower ho0 (below_size zb0)); have n1_ := Aside0.mk (below_step zb0 hb); clear HB; have HO352 := n0_; have HB := n1_; clear n0_ n1_; (try clear hb); (try clear hb2); (try clear hk); (try clear hi); (try clear ho0); obtain ⟨Ao17, co17, eo17⟩ := Kd.R_slice HO352.out; subst eo17) | ((with_reducible refine gate_callee (f := 8) rfl ?_); refine goesL_ (some 20) rfl rfl Tryz.func8 (by kernel_rfl) rfl #[.string a0, .slice Ao17 t350.length co17] rfl zb1 ?_; (with_reducible refine (spec_In.calls k a0 _ _ t350 t353 _ ?side1 ?side2 A8.out).mono ?_); (case side1 => repeat (first | exact (Kd.R_reads' HO352.out).2.2 | (with_reducible refine Kd.C_alloc ?_ _) | (with_reducible refine Kd.C_drewN ?_ _) | (with_reducible refine Kd.C_drew ?_))); (case side2 => exact (Kd.R_reads' HO352.out).2.1); rintro e w18 ⟨rfl, hb⟩; refine ⟨_, rfl, ?_⟩; have n0_ := Aside0.mk (Kd.R_below (by (with_reducible repeat (first | apply Kd.R_alloc | apply Kd.R_drewN | apply Kd.R_drew)); exact HO352.out) hb); have n1_ := Aside0.mk (below_step zb0 hb); clear HO352; clear HB; have HO352 := n0_; have HB := n1_; clear n0_ n1_; (try clear hb); (try clear hb2); (try clear hk); (try clear hi)) | ((with_reducible refine gate_callee (f := 9) rfl ?_); refine goesL_ (some 22) rfl rfl Tryz.func9 (by kernel_rfl) rfl #[.slice A1 l1.length c1] rfl zb1 ?_; (with_reducible refine (laws_toBoundS.calls k _ _ l1 t354 _ ?side1 ?side2 A9.out).mono ?_); (case side1 => repeat (first | exact (Kd.C_below HR1.out HB.out) | (with_reducible refine Kd.C_alloc ?_ _) | (with_reducible refine Kd.C_drewN ?_ _) | (with_reducible refine Kd.C_drew ?_))); (case side2 => exact HC1.out); rintro e w19 ⟨v355, rfl, ho0, hb⟩; refine ⟨_, rfl, ?_⟩; have n0_ := Aside0.mk (Kd.R_elder' (by (with_reducible repeat (first | apply Kd.R_alloc | apply Kd.R_drewN | apply Kd.R_drew)); exact HO352.out) (Kd.R_base ho0) hb); have n1_ := Aside0.mk (Kd.R_lower (Kd.R_new' ho0 (Kd.R_lt (by (with_reducible repeat (first | apply Kd.R_alloc | apply Kd.R_drewN | apply Kd.R_drew)); exact HO352.out))) (below_size zb0)); have n2_ := Aside0.mk (below_step zb0 hb); clear HO352; clear HB; have HO352 := n0_; have HO356 := n1_; have HB := n2_; clear n0_ n1_ n2_; (try clear hb); (try clear hb2); (try clear hk); (try clear hi); (try clear ho0); obtain ⟨Ao20, co20, eo20⟩ := Kd.R_slice HO356.out; subst eo20) | ((with_reducible refine gate_callee (f := 10) rfl ?_); refine goesL_ (some 25) rfl rfl Tryz.func10 (by kernel_rfl) rfl #[.string a0, .slice Ao20 t354.length co20] rfl zb1 ?_; (with_reducible refine (impl_In.calls k a0 _ _ t354 t357 _ ?side1 ?side2 ?side3 ?side4 ?side5 A10.out).mono ?_); (case side1 => repeat (first | exact (Kd.R_reads' HO356.out).2.2 | (with_reducible refine Kd.C_alloc ?_ _) | (with_reducible refine Kd.C_drewN ?_ _) | (with_reducible refine Kd.C_drew ?_))); (case side2 => exact (Kd.R_reads' HO356.out).2.1); (case side3 => exact Glob.below HGE.out zb0); (case side4 => exact Glob.below HGM.out zb0); (case side5 => exact Glob.below HGT.out zb0); rintro e w21 ⟨rfl, hb⟩; refine ⟨_, rfl, ?_⟩; have n0_ := Aside0.mk (Kd.R_below (by (with_reducible repeat (first | apply Kd.R_alloc | apply Kd.R_drewN | apply Kd.R_drew)); exact HO352.out) hb); have n1_ := Aside0.mk (Kd.R_below (by (with_reducible repeat (first | apply Kd.R_alloc | apply Kd.R_drewN | apply Kd.R_drew)); exact HO356.out) hb); have n2_ := Aside0.mk (below_step zb0 hb); clear HO352; clear HO356; clear HB; have HO352 := n0_; have HO356 := n1_; have HB := n2_; clear n0_ n1_ n2_; (try clear hb); (try clear hb2); (try clear hk); (try clear hi)) | ((with_reducible refine gate_callee (f := 9) rfl ?_); refine goesL_ (some 31) rfl rfl Tryz.func9 (by kernel_rfl) rfl #[.slice A1 l1.length c1] rfl zb1 ?_; (with_reducible refine (laws_toBoundS.calls k _ _ l1 t358 _ ?side1 ?side2 A12.out).mono ?_); (case side1 => repeat (first | exact (Kd.C_below HR1.out HB.out) | (with_reducible refine Kd.C_alloc ?_ _) | (with_reducible refine Kd.C_drewN ?_ _) | (with_reducible refine Kd.C_drew ?_))); (case side2 => exact HC1.out); rintro e w22 ⟨v359, rfl, ho0, hb⟩; refine ⟨_, rfl, ?_⟩; have n0_ := Aside0.mk (Kd.R_elder' (by (with_reducible repeat (first | apply Kd.R_alloc | apply Kd.R_drewN | apply Kd.R_drew)); exact HO352.out) (Kd.R_base ho0) hb); have n1_ := Aside0.mk (Kd.R_elder' (by (with_reducible repeat (first | apply Kd.R_alloc | apply Kd.R_drewN | apply Kd.R_drew)); exact HO356.out) (Kd.R_base ho0) hb); have n2_ := Aside0.mk (Kd.R_lower (Kd.R_new' (Kd.R_new' ho0 (Kd.R_lt (by (with_reducible repeat (first | apply Kd.R_alloc | apply Kd.R_drewN | apply Kd.R_drew)); exact HO352.out))) (Kd.R_lt (by (with_reducible repeat (first | apply Kd.R_alloc | apply Kd.R_drewN | apply Kd.R_drew)); exact HO356.out))) (below_size zb0)); have n3_ := Aside0.mk (below_step zb0 hb); clear HO352; clear HO356; clear HB; have HO352 := n0_; have HO356 := n1_; have HO360 := n2_; have HB := n3_; clear n0_ n1_ n2_ n3_; (try clear hb); (try clear hb2); (try clear hk); (try clear hi); (try clear ho0); obtain ⟨Ao23, co23, eo23⟩ := Kd.R_slice HO360.out; subst eo23) | ((with_reducible refine gate_callee (f := 11) rfl ?_); refine goesL_ (some 32) rfl rfl Tryz.func11 (by kernel_rfl) rfl #[.slice Ao20 t354.length co20, .slice Ao23 t358.length co23] rfl zb1 ?_; (with_reducible refine (laws_eqBoundS.calls k _ _ t354 _ _ t358 true _ ?side1 ?side2 ?side3 ?side4 A13.out).mono ?_); (case side1 => repeat (first | exact (Kd.R_reads' HO356.out).2.2 | (with_reducible refine Kd.C_alloc ?_ _) | (with_reducible refine Kd.C_drewN ?_ _) | (with_reducible refine Kd.C_drew ?_))); (case side2 => exact (Kd.R_reads' HO356.out).2.1); (case side3 => repeat (first | exact (Kd.R_reads' HO360.out).2.2 | (with_reducible refine Kd.C_alloc ?_ _) | (with_reducible refine Kd.C_drewN ?_ _) | (with_reducible refine Kd.C_drew ?_))); (case side4 => exact (Kd.R_reads' HO360.out).2.1); rintro e w24 ⟨rfl, hb⟩; refine ⟨_, rfl, ?_⟩; have n0_ := Aside0.mk (Kd.R_below (by (with_reducible repeat (first | apply Kd.R_alloc | apply Kd.R_drewN | apply Kd.R_drew)); exact HO352.out) hb); have n1_ := Aside0.mk (Kd.R_below (by (with_reducible repeat (first | apply Kd.R_alloc | apply Kd.R_drewN | apply Kd.R_drew)); exact HO356.out) hb); have n2_ := Aside0.mk (Kd.R_below (by (with_reducible repeat (first | apply Kd.R_alloc | apply Kd.R_drewN | apply Kd.R_drew)); exact HO360.out) hb); have n3_ := Aside0.mk (below_step zb0 hb); clear HO352; clear HO356; clear HO360; clear HB; have HO352 := n0_; have HO356 := n1_; have HO360 := n2_; have HB := n3_; clear n0_ n1_ n2_ n3_; (try clear hb); (try clear hb2); (try clear hk); (try clear hi)))
     go_ret
     exact ⟨zb6, by repeat (first | (with_reducible first | exact HB.out | apply below_alloc | apply pw_below_drewN | apply below_drew1) | exact HB.out)⟩
    ·replace c14 := Bool.eq_false_iff.mpr c14
     subst c14
     have H1 : (some false) = some r := by rw [if_neg (show ¬ (false = true) by decide)] at H; exact H
     clear H
     have H := H1
     clear H1
     exact absurd ((Option.some.inj H).trans hr_) (by decide)

/-- THE ONE PURE STATEMENT of laws_FnExactIn. -/
def laws_FnExactIn.Pure : Prop := ∀ (a0 : ByteArray) (l1 : List (S48)), a0.size ≤ maxLen → (l1.length ≤ maxLen ∧ ∀ x_ ∈ l1, (x_.f0.size ≤ maxLen ∧ x_.f1.size ≤ maxLen)) → ∃ k, laws_FnExactIn.f k a0 l1 = some true

end Go.Proofs.YtbepbfibanmhoaaGreatDoor.G
end

section
namespace Go.Proofs.YtbepbfibanmhoaaGreatDoor.U
open Go Go.RowKit Go.Proofs.YtbepbfibanmhoaaGreatDoorW.PrintWords
set_option linter.unusedVariables false
set_option linter.unusedSimpArgs false

abbrev B := List UInt8
/-- A string's bytes. -/
def L (s : ByteArray) : B := s.data.toList
/-- The string of these bytes. -/
def S (l : B) : ByteArray := ⟨l.toArray⟩
/-- Bytes as whole numbers. -/
def I (l : B) : List Int := l.map fun b => (b.toNat : Int)
@[simp] theorem L_S (l : B) : L (S l) = l := by simp [L, S]
@[simp] theorem S_L (s : ByteArray) : S (L s) = s := rfl
theorem L_inj {s t : ByteArray} (h : L s = L t) : s = t := by rw [← S_L s, ← S_L t, h]
theorem S_inj {l m : B} (h : S l = S m) : l = m := by rw [← L_S l, ← L_S m, h]
theorem size_L (s : ByteArray) : s.size = (L s).length := Go.Lib.size_eq s
@[simp] theorem size_S (l : B) : (S l).size = l.length := by rw [size_L, L_S]
theorem toList_L (s : ByteArray) : s.toList = L s := Go.Lib.toList_data s
@[simp] theorem toList_S (l : B) : (S l).toList = l := by rw [toList_L, L_S]
@[simp] theorem L_append (s t : ByteArray) : L (s ++ t) = L s ++ L t := by simp [L, ByteArray.data_append]
@[simp] theorem S_append (l m : B) : S l ++ S m = S (l ++ m) := L_inj (by simp)
theorem L_extract (s : ByteArray) (a b : Nat) : L (s.extract a b) = ((L s).drop a).take (b - a) := Go.Lib.extract_data s a b
theorem S_extract (l : B) (a b : Nat) : (S l).extract a b = S ((l.drop a).take (b - a)) := L_inj (by rw [L_extract]; simp)
theorem mk_S (l : B) : (⟨l.toArray⟩ : ByteArray) = S l := rfl
@[simp] theorem I_length (l : B) : (I l).length = l.length := by simp [I]
@[simp] theorem I_nil : I [] = [] := rfl
theorem I_append (l m : B) : I (l ++ m) = I l ++ I m := by simp [I]
theorem I_cons (c : UInt8) (l : B) : I (c :: l) = (c.toNat : Int) :: I l := rfl
@[simp] theorem str_I (l : B) : strOfNums (I l) = S l := by
  unfold strOfNums I S
  rw [List.map_map]
  congr 2
  have e : ((fun n : Int => UInt8.ofNat n.toNat) ∘ fun b : UInt8 => (b.toNat : Int)) = id := by funext b; simp
  rw [e, List.map_id]
@[simp] theorem str_nil : strOfNums [] = S [] := rfl
theorem bytesOf_I (s : ByteArray) : bytesOf s = I (L s) := rfl

/-! ### bytes by index -/
theorem bt_S (l : B) (i : Int) (h : i.toNat < l.length) : bt (S l) i = ((l[i.toNat]).toNat : Int) := by
  have h' : i.toNat < (S l).size := by simpa using h
  rw [← bt_at (S l) i h']
  rfl
theorem bt_L (s : ByteArray) (i : Int) (h : i.toNat < (L s).length) : bt s i = (((L s)[i.toNat]).toNat : Int) := by
  have := bt_S (L s) i h
  rwa [S_L] at this
/-- The byte at place i of a list, 0 behind its end. -/
def at_ (l : B) (i : Nat) : UInt8 := l.getD i 0
theorem at_eq (l : B) (i : Nat) (h : i < l.length) : at_ l i = l[i] := by simp [at_, h]
theorem bt_at_ (s : ByteArray) (i : Int) : bt s i = ((at_ (L s) i.toNat).toNat : Int) := by
  by_cases h : i.toNat < (L s).length
  · rw [bt_L s i h, at_eq _ _ h]
  · have h2 : ¬ i.toNat < s.size := by rw [size_L]; exact h
    have h3 : at_ (L s) i.toNat = 0 := by simp [at_, List.getD_eq_getElem?_getD, List.getElem?_eq_none (Nat.le_of_not_lt h)]
    rw [h3]; unfold bt; rw [dif_neg h2]; rfl
theorem bt_nat (s : ByteArray) (i : Nat) : bt s (i : Int) = ((at_ (L s) i).toNat : Int) := bt_at_ s i
theorem byte_lt (c : UInt8) : (c.toNat : Int) < 256 := by have := c.toNat_lt; omega
theorem byte_nonneg (c : UInt8) : 0 ≤ (c.toNat : Int) := by omega
theorem byte_inj {c d : UInt8} (h : (c.toNat : Int) = (d.toNat : Int)) : c = d := UInt8.toNat_inj.1 (by omega)
theorem byte_eq (c : UInt8) (n : Nat) (h : n < 256) : ((c.toNat : Int) = (n : Int)) ↔ c = UInt8.ofNat n := by
  constructor
  · intro e; apply UInt8.toNat_inj.1; rw [UInt8.toNat_ofNat']; omega
  · rintro rfl; rw [UInt8.toNat_ofNat']; omega
theorem byte_is (c d : UInt8) (n : Int) (h : (d.toNat : Int) = n) : ((c.toNat : Int) = n) ↔ c = d := by
  subst h; exact ⟨byte_inj, fun e => by rw [e]⟩
theorem drop_at (l : B) (i : Nat) (h : i < l.length) : l.drop i = at_ l i :: l.drop (i + 1) := by
  rw [at_eq l i h]; exact List.drop_eq_getElem_cons h
theorem take_at (l : B) (i : Nat) (h : i < l.length) : l.take (i + 1) = l.take i ++ [at_ l i] := by
  rw [at_eq l i h, List.take_succ_eq_append_getElem h]

/-! ### whole numbers -/
theorem w64 {n : Int} (h0 : -9223372036854775808 ≤ n) (h1 : n ≤ 9223372036854775807) : wrap64 n = n := by unfold wrap64; omega

/-! ### rounds -/
theorem ev_ite_pos {α : Type} {c : Nat → Prop} [∀ k, Decidable (c k)] {g f : Nat → Option α} {r : α} (hc : ∀ k, c k) (h : Ev g r) : Ev (fun k => if c k then g k else f k) r := Ev.congr (fun k => by rw [if_pos (hc k)]) h
theorem ev_ite_neg {α : Type} {c : Nat → Prop} [∀ k, Decidable (c k)] {g f : Nat → Option α} {r : α} (hc : ∀ k, ¬ c k) (h : Ev f r) : Ev (fun k => if c k then g k else f k) r := Ev.congr (fun k => by rw [if_neg (hc k)]) h
theorem ev_pos {α : Type} {c : Prop} [Decidable c] {g f : Nat → Option α} {r : α} (hc : c) (h : Ev g r) : Ev (fun k => if c then g k else f k) r := ev_ite_pos (fun _ => hc) h
theorem ev_neg {α : Type} {c : Prop} [Decidable c] {g f : Nat → Option α} {r : α} (hc : ¬ c) (h : Ev f r) : Ev (fun k => if c then g k else f k) r := ev_ite_neg (fun _ => hc) h
theorem ev_some {α β : Type} {a : α} {f : Nat → α → Option β} {r : β} (h : Ev (fun k => f k a) r) : Ev (fun k => (some a).bind (f k)) r := h
theorem ev_const {α β : Type} {g : Option α} {a : α} (hg : g = some a) {f : Nat → α → Option β} {r : β} (h : Ev (fun k => f k a) r) : Ev (fun k => g.bind (f k)) r := by subst hg; exact h
theorem ev_use {α : Type} {g : Nat → Option α} {a b : α} (h : Ev g a) (e : a = b) : Ev g b := e ▸ h
theorem ev_exists {α : Type} {g : Nat → Option α} {r : α} (h : Ev g r) : ∃ k, g k = some r := h.rounds

/-- A loop that counts up: what it comes to, from each place on. -/
theorem loop_up {σ α : Type} (g : Nat → Int → σ → Option α) (n : Nat) (Inv : Nat → σ → Prop) (res : Nat → σ → α)
    (hend : ∀ st, Inv n st → Ev (fun k => g k (n : Int) st) (res n st))
    (hstep : ∀ i st, i < n → Inv i st → (∀ st', Inv (i + 1) st' → Ev (fun k => g k ((i + 1 : Nat) : Int) st') (res (i + 1) st')) → Ev (fun k => g k (i : Int) st) (res i st)) :
    ∀ i st, i ≤ n → Inv i st → Ev (fun k => g k (i : Int) st) (res i st) := by
  intro i st hi
  obtain ⟨d, hd⟩ : ∃ d, i + d = n := ⟨n - i, by omega⟩
  clear hi
  induction d generalizing i st with
  | zero => intro h; have e : i = n := by omega
            subst e; exact hend st h
  | succ d ih => intro h; exact hstep i st (by omega) h fun st' h' => ih (i + 1) st' (by omega) h'
theorem inc (i : Nat) (h : i < 9223372036854775807) : wrap64 ((i : Int) + 1) = ((i + 1 : Nat) : Int) := by rw [w64 (by omega) (by omega)]; omega

theorem wa1 (j : Nat) (h : j ≤ 1125899906842624) : wrap64 ((j : Int) + 1) = ((j + 1 : Nat) : Int) := by rw [w64 (by omega) (by omega)]; omega
theorem wa2 (j : Nat) (h : j ≤ 1125899906842624) : wrap64 ((j : Int) + 2) = ((j + 2 : Nat) : Int) := by rw [w64 (by omega) (by omega)]; omega
theorem wa3 (j : Nat) (h : j ≤ 1125899906842624) : wrap64 ((j : Int) + 3) = ((j + 3 : Nat) : Int) := by rw [w64 (by omega) (by omega)]; omega
theorem wa4 (j : Nat) (h : j ≤ 1125899906842624) : wrap64 ((j : Int) + 4) = ((j + 4 : Nat) : Int) := by rw [w64 (by omega) (by omega)]; omega
/-- What holds of each of the 256 bytes. -/
theorem all_bytes {p : UInt8 → Prop} (h : ∀ n, n < 256 → p (UInt8.ofNat n)) (c : UInt8) : p c := by
  have := h c.toNat c.toNat_lt
  rwa [UInt8.ofNat_toNat] at this

end Go.Proofs.YtbepbfibanmhoaaGreatDoor.U
end

section
namespace Go.Proofs.YtbepbfibanmhoaaGreatDoor.U
open Go Go.RowKit
set_option linter.unusedVariables false

/-- What digits spell, behind a. -/
def val10 (a : Nat) : B → Nat
  | [] => a
  | c :: l => val10 (a * 10 + (c.toNat - 48)) l
theorem val10_append : ∀ (l m : B) (a : Nat), val10 a (l ++ m) = val10 (val10 a l) m
  | [], m, a => rfl
  | c :: l, m, a => by rw [List.cons_append]; exact val10_append l m _
def dgt (c : UInt8) : Bool := decide (48 ≤ c.toNat ∧ c.toNat ≤ 57)
theorem dgt_is (c : UInt8) : dgt c = true ↔ 48 ≤ c.toNat ∧ c.toNat ≤ 57 := by unfold dgt; exact decide_eq_true_iff
theorem dgt_of (i : Nat) (h : i < 10) : (UInt8.ofNat (48 + i)).toNat = 48 + i := by rw [UInt8.toNat_ofNat']; omega
theorem decDigits_step (u : Nat) (h : ¬ u < 10) : Lib.decDigits u = Lib.decDigits (u / 10) ++ [UInt8.ofNat (48 + u % 10)] := by
  conv => lhs; unfold Lib.decDigits
  rw [dif_neg h]
theorem dec_digits : ∀ (n u : Nat), u < n → (∀ c ∈ Lib.decDigits u, dgt c = true) ∧ val10 0 (Lib.decDigits u) = u := by
  intro n
  induction n with
  | zero => intro u h; omega
  | succ n ih =>
    intro u hu
    by_cases h : u < 10
    · rw [Lib.decDigits_one h]
      refine ⟨fun c hc => ?_, ?_⟩
      · rw [List.mem_singleton] at hc; subst hc; rw [dgt_is, dgt_of u h]; omega
      · show 0 * 10 + ((UInt8.ofNat (48 + u)).toNat - 48) = u
        rw [dgt_of u h]; omega
    · rw [decDigits_step u h]
      obtain ⟨h1, h2⟩ := ih (u / 10) (by omega)
      refine ⟨fun c hc => ?_, ?_⟩
      · rw [List.mem_append, List.mem_singleton] at hc
        rcases hc with hc | rfl
        · exact h1 c hc
        · rw [dgt_is, dgt_of _ (Nat.mod_lt _ (by decide))]; omega
      · rw [val10_append, h2]
        show (u / 10) * 10 + ((UInt8.ofNat (48 + u % 10)).toNat - 48) = u
        rw [dgt_of _ (Nat.mod_lt _ (by decide))]; omega
theorem dec_dgt (u : Nat) : ∀ c ∈ Lib.decDigits u, dgt c = true := (dec_digits (u + 1) u (by omega)).1
theorem dec_val (u : Nat) : val10 0 (Lib.decDigits u) = u := (dec_digits (u + 1) u (by omega)).2
theorem dec_ne (u : Nat) : Lib.decDigits u ≠ [] := by
  intro h
  have := Lib.decDigits_length u
  rw [h] at this
  have := Lib.nDigits_pos u
  simp at *; omega
theorem dec_inj {u v : Nat} (h : Lib.decDigits u = Lib.decDigits v) : u = v := by rw [← dec_val u, ← dec_val v, h]
theorem dec_len_lt (u d : Nat) (h : (Lib.decDigits u).length ≤ d) : u < 10 ^ d := by
  rw [Lib.decDigits_length] at h
  exact Nat.lt_of_lt_of_le (Lib.lt_pow_nDigits u) (Nat.pow_le_pow_right (by decide) h)
theorem dec_len_le : ∀ (d u : Nat), u < 10 ^ (d + 1) → (Lib.decDigits u).length ≤ d + 1 := by
  intro d
  induction d with
  | zero => intro u h; rw [Lib.decDigits_one (by omega)]; simp
  | succ d ih =>
    intro u h
    by_cases h1 : u < 10
    · rw [Lib.decDigits_one h1]; simp
    · rw [decDigits_step u h1, List.length_append]
      have := ih (u / 10) (by rw [Nat.div_lt_iff_lt_mul (by decide)]; rw [Nat.pow_succ] at h; exact h)
      simp; omega
theorem val10_lt : ∀ (l : B) (a : Nat), (∀ c ∈ l, dgt c = true) → val10 a l < (a + 1) * 10 ^ l.length
  | [], a, _ => by rw [List.length_nil, Nat.pow_zero]; show a < (a + 1) * 1; omega
  | c :: l, a, h => by
    have hc := (dgt_is c).1 (h c (by simp))
    have := val10_lt l (a * 10 + (c.toNat - 48)) fun x hx => h x (by simp [hx])
    refine Nat.lt_of_lt_of_le this ?_
    rw [List.length_cons, Nat.pow_succ, Nat.mul_comm (10 ^ l.length) 10, ← Nat.mul_assoc]
    exact Nat.mul_le_mul_right _ (by omega)
theorem val10_ge : ∀ (l : B) (a : Nat), a ≤ val10 a l
  | [], a => Nat.le_refl _
  | c :: l, a => Nat.le_trans (by omega) (val10_ge l (a * 10 + (c.toNat - 48)))

/-- The number of at most nine digits that a text is the numeral of, or -1. -/
def rdec (l : B) : Int := if l.length ≤ 9 ∧ Lib.decDigits (val10 0 l) = l then (val10 0 l : Int) else -1
theorem p9 : (10 : Nat) ^ 9 = 1000000000 := by decide
theorem rdec_dec (u : Nat) (h : u < 1000000000) : rdec (Lib.decDigits u) = u := by
  unfold rdec
  have h9 : (Lib.decDigits u).length ≤ 9 := dec_len_le 8 u (by rw [show 8 + 1 = 9 from rfl, p9]; exact h)
  rw [dec_val, if_pos ⟨h9, rfl⟩]
theorem rdec_some {l : B} (h : ¬ rdec l = -1) : ∃ u : Nat, u < 1000000000 ∧ l = Lib.decDigits u ∧ rdec l = u := by
  unfold rdec at h ⊢
  by_cases hc : l.length ≤ 9 ∧ Lib.decDigits (val10 0 l) = l
  · refine ⟨val10 0 l, ?_, hc.2.symm, by rw [if_pos hc]⟩
    rw [← p9]; exact dec_len_lt _ 9 (by rw [hc.2]; exact hc.1)
  · rw [if_neg hc] at h; exact absurd rfl h
theorem rdec_range (l : B) : -1 ≤ rdec l ∧ rdec l ≤ 999999999 := by
  by_cases h : rdec l = -1
  · omega
  · obtain ⟨u, h1, _, h2⟩ := rdec_some h; omega
theorem parse_digits : ∀ (l : B) (a : Nat), (∀ c ∈ l, dgt c = true) → val10 a l < 1844674407370955161 → Lib.parseUint10 a l = .ok (val10 a l)
  | [], a, _, _ => rfl
  | c :: l, a, h, hv => by
    have hc := (dgt_is c).1 (h c (by simp))
    have hg := val10_ge l (a * 10 + (c.toNat - 48))
    have hv' : val10 (a * 10 + (c.toNat - 48)) l < 1844674407370955161 := hv
    unfold Lib.parseUint10
    rw [if_pos hc, if_neg (by omega), if_neg (by omega)]
    exact parse_digits l _ (fun x hx => h x (by simp [hx])) hv'
theorem atoi_dec (u : Nat) (h : u < 1000000000) : Lib.atoiAll (Lib.decDigits u) = .ok (u : Int) := by
  have hd := dec_dgt u
  have hv := dec_val u
  have hne := dec_ne u
  generalize Lib.decDigits u = l at *
  cases l with
  | nil => exact absurd rfl hne
  | cons c r =>
    have hc := (dgt_is c).1 (hd c (by simp))
    have hp : Lib.parseMag (c :: r) = .ok u := by
      unfold Lib.parseMag
      rw [if_neg (by simp), parse_digits _ _ hd (by omega), hv]
    unfold Lib.atoiAll
    simp only []
    rw [if_neg (by omega), hp]
    simp only []
    rw [if_neg (by omega), if_neg (by omega), if_neg (by omega)]
end Go.Proofs.YtbepbfibanmhoaaGreatDoor.U
end

section
namespace Go.Proofs.YtbepbfibanmhoaaGreatDoor.U
open Go Go.RowKit Go.Proofs.YtbepbfibanmhoaaGreatDoorW.PrintWords
set_option linter.unusedVariables false
set_option linter.unusedSimpArgs false

/-- What a size function answers: what is left, or -1. -/
def szOut (left w : Int) : Int := if w ≤ left then left - w else -1
theorem szOut_neg {left w : Int} (h : left < w) : szOut left w = -1 := by unfold szOut; rw [if_neg (by omega)]
theorem szOut_pos {left w : Int} (h : w ≤ left) : szOut left w = left - w := by unfold szOut; rw [if_pos h]
/-- A room that is left over. -/
def Room (x : Int) : Prop := 0 ≤ x ∧ x ≤ 1048576
theorem room_le {left w : Int} (hl : Room left) (hw : 0 ≤ w) (h : w ≤ left) : Room (left - w) := by unfold Room at *; omega
theorem room_sub {left : Int} {n : Nat} (hl : Room left) (hn : n ≤ maxLen) : wrap64 (left - (n : Int)) = left - n := by
  unfold Room at hl; exact w64 (by unfold maxLen at hn; omega) (by omega)
theorem szOut_add {left v w : Int} (hv : 0 ≤ v) (hw : 0 ≤ w) (h : v ≤ left) : szOut (left - v) w = szOut left (v + w) := by
  unfold szOut; by_cases h1 : w ≤ left - v
  · rw [if_pos h1, if_pos (by omega)]; omega
  · rw [if_neg h1, if_neg (by omega)]
/-- A size function's law. -/
def Sz (g : Nat → Int → Option Int) (w : Int) : Prop := 0 ≤ w ∧ ∀ left, Room left → Ev (fun k => g k left) (szOut left w)
/-- What is subtracted at once, and the rest. -/
theorem sz_cut {left : Int} {n : Nat} {w : Int} {f : Nat → Option Int} (hl : Room left) (hn : n ≤ maxLen) (hw : 0 ≤ w)
    (h : (n : Int) ≤ left → Room (left - n) → Ev f (szOut (left - n) w)) : Ev (fun k => if wrap64 (left - (n : Int)) < 0 then some (-1) else f k) (szOut left (n + w)) := by
  rw [room_sub hl hn]
  by_cases h0 : left - (n : Int) < 0
  · rw [szOut_neg (by omega)]; exact ev_pos h0 (Ev.now _)
  · refine ev_neg h0 ?_; rw [← szOut_add (by omega) hw (by omega)]; exact h (by omega) (room_le hl (by omega) (by omega))
theorem sz_last {left : Int} {n : Nat} (hl : Room left) (hn : n ≤ maxLen) : Ev (fun _ => if wrap64 (left - (n : Int)) < 0 then some (-1) else some (wrap64 (left - (n : Int)))) (szOut left n) := by
  rw [room_sub hl hn]
  by_cases h0 : left - (n : Int) < 0
  · rw [szOut_neg (by omega)]; exact ev_pos h0 (Ev.now _)
  · refine ev_neg h0 ?_; rw [szOut_pos (by omega)]; exact Ev.now _
/-- What a function subtracts, and the rest. -/
theorem sz_call {left v w : Int} {g : Nat → Int → Option Int} {f : Nat → Int → Option Int} (hg : Sz g v) (hl : Room left) (hw : 0 ≤ w)
    (h : v ≤ left → Room (left - v) → Ev (fun k => f k (left - v)) (szOut (left - v) w)) : Ev (fun k => (g k left).bind fun t => if t < 0 then some (-1) else f k t) (szOut left (v + w)) := by
  refine Ev.bind (hg.2 left hl) ?_
  by_cases h0 : v ≤ left
  · rw [szOut_pos h0]; refine ev_neg (by omega) ?_; rw [← szOut_add hg.1 hw h0]; exact h h0 (room_le hl hg.1 h0)
  · rw [szOut_neg (by omega), szOut_neg (by omega)]; exact ev_pos (by omega) (Ev.now _)
theorem sz_end {left : Int} : Ev (fun _ => some left) (szOut left 0) ∨ left < 0 := by
  by_cases h : left < 0
  · exact Or.inr h
  · left; rw [szOut_pos (by omega)]; simpa using Ev.now left
theorem sz_done {left : Int} (h : Room left) : Ev (fun _ => some left) (szOut left 0) := by
  rw [szOut_pos (by unfold Room at h; omega)]; simpa using Ev.now left
/-- The sizes of a list's members, summed. -/
def sumW {α : Type} (w : α → Int) : List α → Int
  | [] => 0
  | x :: l => w x + sumW w l
theorem sumW_nonneg {α : Type} {w : α → Int} {l : List α} (h : ∀ x ∈ l, 0 ≤ w x) : 0 ≤ sumW w l := by
  induction l with
  | nil => simp [sumW]
  | cons x l ih => have := h x (by simp); have := ih fun y hy => h y (by simp [hy]); simp only [sumW]; omega
theorem sumW_mem {α : Type} {w : α → Int} {l : List α} (h : ∀ x ∈ l, 0 ≤ w x) {x : α} (hx : x ∈ l) : w x ≤ sumW w l := by
  induction l with
  | nil => simp at hx
  | cons y l ih =>
    have h1 := h y (by simp); have h2 : 0 ≤ sumW w l := sumW_nonneg fun z hz => h z (by simp [hz])
    simp only [sumW]
    rcases List.mem_cons.1 hx with rfl | hx
    · omega
    · have := ih (fun z hz => h z (by simp [hz])) hx; omega
/-- A list's weight: its length and its members' weights. -/
def wList {α : Type} (w : α → Int) (l : List α) : Int := l.length + sumW w l
theorem wList_nonneg {α : Type} {w : α → Int} {l : List α} (h : ∀ x ∈ l, 0 ≤ w x) : 0 ≤ wList w l := by
  have := sumW_nonneg h; unfold wList; omega
theorem wList_len {α : Type} {w : α → Int} {l : List α} (h : ∀ x ∈ l, 0 ≤ w x) : (l.length : Int) ≤ wList w l := by
  have := sumW_nonneg h; unfold wList; omega
theorem wList_mem {α : Type} {w : α → Int} {l : List α} (h : ∀ x ∈ l, 0 ≤ w x) {x : α} (hx : x ∈ l) : w x ≤ wList w l := by
  have := sumW_mem h hx; unfold wList; omega
theorem getD_mem {α : Type} (l : List α) (i : Nat) (z : α) (h : i < l.length) : l.getD i z ∈ l := by
  rw [List.getD_eq_getElem?_getD, List.getElem?_eq_getElem h]; exact List.getElem_mem h
theorem drop_getD {α : Type} (l : List α) (i : Nat) (z : α) (h : i < l.length) : l.drop i = l.getD i z :: l.drop (i + 1) := by
  rw [List.getD_eq_getElem?_getD, List.getElem?_eq_getElem h]; exact List.drop_eq_getElem_cons h
/-- The loop of a size function over a list. -/
theorem sz_loop {α : Type} (l : List α) (z : α) (w : α → Int) (g : Nat → Int → Int → Option Int) (s : Nat → α → Int → Option Int) (hlen : l.length ≤ maxLen)
    (hin : ∀ k (i : Nat) st, i < l.length → g (k + 1) (i : Int) st = (s k (l.getD i z) st).bind fun t => if t < 0 then some (-1) else g k (wrap64 ((i : Int) + 1)) t)
    (hend : ∀ k st, g (k + 1) (l.length : Int) st = some st)
    (hs : ∀ x ∈ l, Sz (fun k left => s k x left) (w x)) :
    ∀ left, Room left → Ev (fun k => g k 0 left) (szOut left (sumW w l)) := by
  have hw : ∀ x ∈ l, 0 ≤ w x := fun x hx => (hs x hx).1
  have key : ∀ d i st, i + d = l.length → Room st → Ev (fun k => g k (i : Int) st) (szOut st (sumW w (l.drop i))) := by
    intro d
    induction d with
    | zero =>
      intro i st hi hr
      have e : i = l.length := by omega
      subst e
      rw [List.drop_length]
      exact Ev.step (by intro k; rw [hend]) (sz_done hr)
    | succ d ih =>
      intro i st hi hr
      have h : i < l.length := by omega
      rw [drop_getD l i z h]
      refine Ev.step (fun k => hin k i st h) ?_
      refine sz_call (g := fun k left => s k (l.getD i z) left) (hs _ (getD_mem l i z h)) hr (sumW_nonneg fun x hx => hw x (List.mem_of_mem_drop hx)) fun _ hr' => ?_
      rw [inc i (by unfold maxLen at hlen; omega)]
      exact ih (i + 1) _ (by omega) hr'
  intro left hl
  exact key l.length 0 left (by omega) hl

/-- The loop of a copy: each member's picture, one place after the other. -/
theorem to_loop {α β : Type} (l : List α) (z : α) (y : β) (f : α → β) (g : Nat → Int → List β → Option (List β)) (hlen : l.length ≤ maxLen)
    (hin : ∀ k (i : Nat) st, i < l.length → st.length = l.length → g (k + 1) (i : Int) st = g k (wrap64 ((i : Int) + 1)) (st.set i (f (l.getD i z))))
    (hend : ∀ k st, g (k + 1) (l.length : Int) st = some st) :
    Ev (fun k => g k 0 (List.replicate l.length y)) (l.map f) := by
  have key : ∀ d i st, i + d = l.length → st.length = l.length → Ev (fun k => g k (i : Int) st) (st.take i ++ (l.drop i).map f) := by
    intro d
    induction d with
    | zero =>
      intro i st hi hs
      have e : i = l.length := by omega
      subst e
      rw [List.drop_length]
      exact Ev.step (by intro k; rw [hend]) (ev_use (Ev.now _) (by rw [← hs, List.take_length]; simp))
    | succ d ih =>
      intro i st hi hs
      have h : i < l.length := by omega
      rw [drop_getD l i z h]
      refine Ev.step (fun k => hin k i st h hs) ?_
      rw [inc i (by unfold maxLen at hlen; omega)]
      refine ev_use (ih (i + 1) _ (by omega) (by simpa using hs)) ?_
      have h2 : i < st.length := by omega
      rw [List.take_succ_eq_append_getElem (by simpa using h2)]
      simp [List.take_set_of_le]
  have := key l.length 0 (List.replicate l.length y) (by omega) (by simp)
  simpa using this

/-- The loop of a copy, where a member's picture is made by a call. -/
theorem to_loop2 {α β : Type} (l : List α) (z : α) (y : β) (f : α → β) (g : Nat → Int → List β → Option (List β)) (p : Nat → α → Option β) (hlen : l.length ≤ maxLen)
    (hin : ∀ k (i : Nat) st, i < l.length → st.length = l.length → g (k + 1) (i : Int) st = (p k (l.getD i z)).bind fun b => g k (wrap64 ((i : Int) + 1)) (st.set i b))
    (hend : ∀ k st, g (k + 1) (l.length : Int) st = some st)
    (hp : ∀ x ∈ l, Ev (fun k => p k x) (f x)) :
    Ev (fun k => g k 0 (List.replicate l.length y)) (l.map f) := by
  have key : ∀ d i st, i + d = l.length → st.length = l.length → Ev (fun k => g k (i : Int) st) (st.take i ++ (l.drop i).map f) := by
    intro d
    induction d with
    | zero =>
      intro i st hi hs
      have e : i = l.length := by omega
      subst e
      rw [List.drop_length]
      exact Ev.step (by intro k; rw [hend]) (ev_use (Ev.now _) (by rw [← hs, List.take_length]; simp))
    | succ d ih =>
      intro i st hi hs
      have h : i < l.length := by omega
      rw [drop_getD l i z h]
      refine Ev.step (fun k => hin k i st h hs) ?_
      refine Ev.bind (hp _ (getD_mem l i z h)) ?_
      rw [inc i (by unfold maxLen at hlen; omega)]
      refine ev_use (ih (i + 1) _ (by omega) (by simpa using hs)) ?_
      have h2 : i < st.length := by omega
      rw [List.take_succ_eq_append_getElem (by simpa using h2)]
      simp [List.take_set_of_le]
  have := key l.length 0 (List.replicate l.length y) (by omega) (by simp)
  simpa using this

/-- The loop of an equality of a list with itself. -/
theorem eq_loop {α : Type} (l : List α) (z : α) (g : Nat → Int → Option Bool) (e : Nat → α → Option Bool) (hlen : l.length ≤ maxLen)
    (hin : ∀ k (i : Nat), i < l.length → g (k + 1) (i : Int) = (e k (l.getD i z)).bind fun t => if t = true then g k (wrap64 ((i : Int) + 1)) else some false)
    (hend : ∀ k, g (k + 1) (l.length : Int) = some true)
    (he : ∀ x ∈ l, Ev (fun k => e k x) true) : Ev (fun k => g k 0) true := by
  have key : ∀ d i, i + d = l.length → Ev (fun k => g k (i : Int)) true := by
    intro d
    induction d with
    | zero =>
      intro i hi
      have e : i = l.length := by omega
      subst e
      exact Ev.step (by intro k; rw [hend]) (Ev.now true)
    | succ d ih =>
      intro i hi
      have h : i < l.length := by omega
      refine Ev.step (fun k => hin k i h) ?_
      refine Ev.bind (he _ (getD_mem l i z h)) ?_
      refine ev_pos rfl ?_
      rw [inc i (by unfold maxLen at hlen; omega)]
      exact ih (i + 1) (by omega)
  exact key l.length 0 (by omega)

theorem sz_cut' {left : Int} {n : Nat} {w : Int} {f : Nat → Option Int} (hl : Room left) (hw : 0 ≤ w)
    (h : (n : Int) ≤ left → Room (left - n) → Ev f (szOut (left - n) w)) : Ev (fun k => if left - (n : Int) < 0 then some (-1) else f k) (szOut left (n + w)) := by
  by_cases h0 : left - (n : Int) < 0
  · rw [szOut_neg (by omega)]; exact ev_pos h0 (Ev.now _)
  · refine ev_neg h0 ?_; rw [← szOut_add (by omega) hw (by omega)]; exact h (by omega) (room_le hl (by omega) (by omega))
theorem room_all : Room 1048576 := by unfold Room; omega
/-- A law's first question: too big is true at once. -/
theorem law_sz {w : Int} {g : Nat → Int → Option Int} {f : Nat → Option Bool} (hg : Sz g w) (h : w ≤ 1048576 → Ev f true) : Ev (fun k => (g k 1048576).bind fun t => if t < 0 then some true else f k) true := by
  refine Ev.bind (hg.2 1048576 room_all) ?_
  by_cases h0 : w ≤ 1048576
  · rw [szOut_pos h0]; exact ev_neg (by omega) (h h0)
  · rw [szOut_neg (by omega)]; exact ev_pos (by omega) (Ev.now _)
/-- The weight of a list of strings. -/
def w_StringS (l : List ByteArray) : Int := wList (fun s => (s.size : Int)) l
theorem w_StringS_nonneg (l : List ByteArray) : 0 ≤ w_StringS l := wList_nonneg fun x _ => by omega
theorem w_StringS_len (l : List ByteArray) : (l.length : Int) ≤ w_StringS l := wList_len fun x _ => by omega
theorem w_StringS_mem {l : List ByteArray} {x : ByteArray} (hx : x ∈ l) : (x.size : Int) ≤ w_StringS l := wList_mem (w := fun s : ByteArray => (s.size : Int)) (fun x _ => by omega) hx

end Go.Proofs.YtbepbfibanmhoaaGreatDoor.U
end
