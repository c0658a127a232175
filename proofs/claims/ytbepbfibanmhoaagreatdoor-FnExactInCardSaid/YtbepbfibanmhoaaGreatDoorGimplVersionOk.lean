-- PRINTED by print.py (a twelfth state) out of the translation. Not trusted: Lean checks it.
import Derived.Test.YtbepbfibanmhoaaGreatDoorG0
import Derived.Test.YtbepbfibanmhoaaGreatDoorGimplwithin
import Derived.Test.YtbepbfibanmhoaaGreatDoorGimplReadDec
import Derived.Test.YtbepbfibanmhoaaGreatDoorGimplisNumber
import Derived.Test.YtbepbfibanmhoaaGreatDoorGimplallimplVersionOk1
namespace Go.Proofs.YtbepbfibanmhoaaGreatDoor.G
open Go.RowKit Go.Proofs.YtbepbfibanmhoaaGreatDoorW.PrintWords Go.Proofs.YtbepbfibanmhoaaGreatDoorW.PrintLast Go.Proofs.YtbepbfibanmhoaaGreatDoorW.PrintMore
attribute [local go_sem] max2_int min2_int max_two min_two max_three min_three max_four min_four   -- for this text's walks alone
attribute [local go_sem high] Go.Proofs.YtbepbfibanmhoaaGreatDoor.G.str_gtr Go.Proofs.YtbepbfibanmhoaaGreatDoor.G.str_leq Go.Proofs.YtbepbfibanmhoaaGreatDoor.G.str_geq
set_option linter.unusedVariables false
set_option linter.unusedSimpArgs false

/-! ### impl_VersionOk: function 87 -/
mutual
def impl_VersionOk.l0 : Nat → List Int → Int → Int → Int → Int → Int → List ByteArray → Option (Bool)
 | 0, _, _, _, _, _, _, _ => none
 | k + 1, x13, x14, x15, x235000, x235001, x235002, x235003 => if x15 < x14 then (if 0 ≤ x15 then (if x15 < (x13.length : Int) then ((impl_within.f (rd x13 x15) 0 999999999).bind fun t239 => (if t239 = true then (impl_VersionOk.l0 k x13 x14 (wrap64 (x15 + 1)) x235000 x235001 x235002 x235003) else (some false))) else (none)) else (none)) else (impl_VersionOk.l1 k x235003 (x235003.length : Int) 0 x235000 x235001 x235002 x235003)
def impl_VersionOk.l1 : Nat → List ByteArray → Int → Int → Int → Int → Int → List ByteArray → Option (Bool)
 | 0, _, _, _, _, _, _, _ => none
 | k + 1, x24, x25, x26, x235000, x235001, x235002, x235003 => if x26 < x25 then (if 0 ≤ x26 then (if x26 < (x24.length : Int) then ((impl_within.f ((rdOf ByteArray.empty x24 x26).size : Int) 1 20).bind fun t241 => (if t241 = true then ((impl_all__impl_VersionOk_1.f k (rdOf ByteArray.empty x24 x26)).bind fun t242 => (if t242 = true then ((impl_isNumber.f k (rdOf ByteArray.empty x24 x26)).bind fun t243 => (if t243 = true then ((impl_ReadDec.f (rdOf ByteArray.empty x24 x26)).bind fun t244 => (if t244 < 0 then (some false) else (impl_VersionOk.l1 k x24 x25 (wrap64 (x26 + 1)) x235000 x235001 x235002 x235003))) else (impl_VersionOk.l1 k x24 x25 (wrap64 (x26 + 1)) x235000 x235001 x235002 x235003))) else (some false))) else (some false))) else (none)) else (none)) else (some (decide ((x235003.length : Int) ≤ 5)))
end
def impl_VersionOk.f (k : Nat) (a0_0 : Int) (a0_1 : Int) (a0_2 : Int) (l0_3 : List ByteArray) : Option (Bool) := (some (([a0_0, a0_1, a0_2] : List Int) : List Int)).bind fun y235 => (impl_VersionOk.l0 k y235 (y235.length : Int) 0 a0_0 a0_1 a0_2 l0_3)
theorem impl_VersionOk.mono_l : ∀ k, (∀ y0 y1 y2 y3 y4 y5 y6, LeO (impl_VersionOk.l0 k y0 y1 y2 y3 y4 y5 y6) (impl_VersionOk.l0 (k + 1) y0 y1 y2 y3 y4 y5 y6)) ∧ (∀ y0 y1 y2 y3 y4 y5 y6, LeO (impl_VersionOk.l1 k y0 y1 y2 y3 y4 y5 y6) (impl_VersionOk.l1 (k + 1) y0 y1 y2 y3 y4 y5 y6))
 | 0 => ⟨fun _ _ _ _ _ _ _ r h => by simp [impl_VersionOk.l0] at h, fun _ _ _ _ _ _ _ r h => by simp [impl_VersionOk.l1] at h⟩
 | k + 1 => by
  obtain ⟨ih0, ih1⟩ := impl_VersionOk.mono_l k
  refine ⟨?_, ?_⟩
  ·intro y0 y1 y2 y3 y4 y5 y6
   unfold impl_VersionOk.l0
   repeat' first
   | (with_reducible exact ih0 _ _ _ _ _ _ _)
   | (with_reducible exact ih1 _ _ _ _ _ _ _)
   | (with_reducible exact impl_all__impl_VersionOk_1.mono _ _)
   | (with_reducible exact impl_isNumber.mono _ _)
   | (with_reducible exact LeO.refl _)
   | (with_reducible exact LeO.none _)
   | (with_reducible refine LeO.ite ?_ ?_)
   | (with_reducible refine LeO.bind ?_ (fun _ => ?_))
   | exact ih0 _ _ _ _ _ _ _
   | exact ih1 _ _ _ _ _ _ _
   | exact impl_all__impl_VersionOk_1.mono _ _
   | exact impl_isNumber.mono _ _
   | exact LeO.none _
   | refine LeO.ite ?_ ?_
   | refine LeO.bind ?_ (fun _ => ?_)
  ·intro y0 y1 y2 y3 y4 y5 y6
   unfold impl_VersionOk.l1
   repeat' first
   | (with_reducible exact ih0 _ _ _ _ _ _ _)
   | (with_reducible exact ih1 _ _ _ _ _ _ _)
   | (with_reducible exact impl_all__impl_VersionOk_1.mono _ _)
   | (with_reducible exact impl_isNumber.mono _ _)
   | (with_reducible exact LeO.refl _)
   | (with_reducible exact LeO.none _)
   | (with_reducible refine LeO.ite ?_ ?_)
   | (with_reducible refine LeO.bind ?_ (fun _ => ?_))
   | exact ih0 _ _ _ _ _ _ _
   | exact ih1 _ _ _ _ _ _ _
   | exact impl_all__impl_VersionOk_1.mono _ _
   | exact impl_isNumber.mono _ _
   | exact LeO.none _
   | refine LeO.ite ?_ ?_
   | refine LeO.bind ?_ (fun _ => ?_)
theorem impl_VersionOk.mono : ∀ a0 a1 a2 a3 k, LeO (impl_VersionOk.f k a0 a1 a2 a3) (impl_VersionOk.f (k + 1) a0 a1 a2 a3) := by
 intro a0 a1 a2 a3 k
 obtain ⟨ih0, ih1⟩ := impl_VersionOk.mono_l k
 unfold impl_VersionOk.f
 repeat' first
   | (with_reducible exact ih0 _ _ _ _ _ _ _)
   | (with_reducible exact ih1 _ _ _ _ _ _ _)
   | (with_reducible exact impl_all__impl_VersionOk_1.mono _ _)
   | (with_reducible exact impl_isNumber.mono _ _)
   | (with_reducible exact LeO.refl _)
   | (with_reducible exact LeO.none _)
   | (with_reducible refine LeO.ite ?_ ?_)
   | (with_reducible refine LeO.bind ?_ (fun _ => ?_))
   | exact ih0 _ _ _ _ _ _ _
   | exact ih1 _ _ _ _ _ _ _
   | exact impl_all__impl_VersionOk_1.mono _ _
   | exact impl_isNumber.mono _ _
   | exact LeO.none _
   | refine LeO.ite ?_ ?_
   | refine LeO.bind ?_ (fun _ => ?_)
set_option maxHeartbeats 8000000 in
set_option maxRecDepth 100000 in
theorem impl_VersionOk.calls (k : Nat) (a0_0 : Int) (a0_1 : Int) (a0_2 : Int) (A0_3 : Option Addr) (c0_3 : Nat) (l0_3 : List ByteArray) (r : Bool) (w : World) (hr0_3 : Kd.C Kd.string w A0_3 l0_3.length l0_3) (hc0_3 : l0_3.length ≤ c0_3) (hGE : Glob FactE w) (hGT : Glob FactT w) (h : impl_VersionOk.f k a0_0 a0_1 a0_2 l0_3 = some r) :
  Calls Tryz.prog 87 #[.agg #[.int .i64 a0_0, .int .i64 a0_1, .int .i64 a0_2, .slice A0_3 l0_3.length c0_3]] w fun e w' => e = .returned (.bool r) ∧ Below w.heap.size w w' := by
 have hu50 := Tryz.underlying50
 have HR0_3 := Aside0.mk hr0_3
 have HC0_3 := Aside0.mk hc0_3
 clear hr0_3 hc0_3
 have HB := Aside0.mk (Below.refl w.heap.size w)
 have HGE := Aside0.mk hGE
 clear hGE
 have HGT := Aside0.mk hGT
 clear hGT
 have H : ((some (([a0_0, a0_1, a0_2] : List Int) : List Int)).bind fun y235 => (impl_VersionOk.l0 k y235 (y235.length : Int) 0 a0_0 a0_1 a0_2 l0_3)) = some r := h
 clear h
 obtain ⟨y235, hy235⟩ : ∃ y_ : List Int, y_ = (([a0_0, a0_1, a0_2] : List Int)) := ⟨_, rfl⟩
 replace H : (impl_VersionOk.l0 k y235 (y235.length : Int) 0 a0_0 a0_1 a0_2 l0_3) = some r := by first | (rw [hy235]; with_reducible exact H) | (have H2_ := (Option.bind_some _ _).symm.trans H; rw [hy235]; with_reducible exact H2_) | (have H2_ := (Option.bind_some _ _).symm.trans H; with_reducible exact H2_) | with_reducible exact H | (rw [hy235]; exact H) | exact H
 have Ny235 := Aside0.mk hy235
 clear hy235
 have H' := Aside0.mk H
 clear H
 go_enter Tryz.func87, Tryz.ntmps87
 go_wp2_with (first | ((with_reducible refine gate_dst (N := 1) rfl ?_); refine box_event ?hg (N := 1) ?hd (cs := #[.int .i64 a0_0, .int .i64 a0_1, .int .i64 a0_2, .slice A0_3 l0_3.length c0_3]) (t := 50) ?hr ?_; (case hd => rfl); (case hg => rfl); (case hr => first | (go_simp; done) | (go_simp; rfl)); intro gb234 hg w2 hbox hb; have n0_ := Aside0.mk (below_step zb0 hb); have n1_ := Aside0.mk (hbox); have n2_ := Aside0.mk ((by rw [hg]; exact (below_size zb0) : w.heap.size ≤ gb234)); have n3_ := Aside0.mk ((by rw [hg]; exact (below_size zb0) : w.heap.size ≤ gb234)); clear HB; have HB := n0_; have BK234 := n1_; have GW234 := n2_; have GE234 := n3_; clear n0_ n1_ n2_ n3_; clear hb hbox hg; have hcz3_0 : w2.cell? ⟨gb234, 0, none⟩ = some (.int .i64 a0_0) := (blk_cell BK234.out 0).trans rfl; have hcz3_1 : w2.cell? ⟨gb234, 1, none⟩ = some (.int .i64 a0_1) := (blk_cell BK234.out 1).trans rfl; have hcz3_2 : w2.cell? ⟨gb234, 2, none⟩ = some (.int .i64 a0_2) := (blk_cell BK234.out 2).trans rfl; have hcz3_3 : w2.cell? ⟨gb234, 3, none⟩ = some (.slice A0_3 l0_3.length c0_3) := (blk_cell BK234.out 3).trans rfl; have hfz3_0 := blk_frozen BK234.out 0; have hfz3_1 := blk_frozen BK234.out 1; have hfz3_2 := blk_frozen BK234.out 2; have hfz3_3 := blk_frozen BK234.out 3) | ((with_reducible refine gate_dst (N := 13) rfl ?_); refine Kd.R_lit (Kd.int .i64) _ 3 ?hg (N := 13) ?hd (xs := ([a0_0, a0_1, a0_2] : List Int)) (inner := [.int .i64 a0_0, .int .i64 a0_1, .int .i64 a0_2]) (ok := fun _ => True) (okp := fun _ => True) ?hr ?hp (fun _ hk => hk) trivial (Below.refl _ _) (Nat.le_refl _) (by simp) ?_; (case hd => rfl); (case hg => rfl); (case hr => first | (go_simp; done) | (go_simp; rfl)); (case hp => exact (Reps.one (show Kd.M (Kd.int .i64) _ _ _ a0_0 [.int .i64 a0_0] from rfl) (Reps.one (show Kd.M (Kd.int .i64) _ _ _ a0_1 [.int .i64 a0_1] from rfl) (Reps.one (show Kd.M (Kd.int .i64) _ _ _ a0_2 [.int .i64 a0_2] from rfl) (Reps.none _ _))))); intro v236 w4 ho5 hb hg_ hnew_; clear hg_ hnew_; (first | rw [← Ny235.out] at ho5 | (simp only [Int.reduceToNat] at ho5; rw [← Ny235.out] at ho5)); have n0_ := Aside0.mk (Kd.R_lower ho5 (below_size (by repeat (first | (with_reducible first | exact HB.out | apply below_alloc | apply pw_below_drewN | apply below_drew1 | refine below_set ?_ GE234.out) | exact HB.out)))); have n1_ := Aside0.mk (blk_below (g := gb234) (o := .cells #[.int .i64 a0_0, .int .i64 a0_1, .int .i64 a0_2, .slice A0_3 l0_3.length c0_3] 50 (0, 0)) (by (with_reducible repeat (first | refine bN_ ?_ _ | refine bD_ ?_ | refine bA_ ?_ _)); exact BK234.out) hb); have n2_ := Aside0.mk (below_step (by repeat (first | (with_reducible first | exact HB.out | apply below_alloc | apply pw_below_drewN | apply below_drew1 | refine below_set ?_ GE234.out) | exact HB.out)) hb); clear BK234; clear HB; have HO237 := n0_; have BK234 := n1_; have HB := n2_; clear n0_ n1_ n2_; clear hb ho5; obtain ⟨Ao6, co6, eo6⟩ := Kd.R_slice HO237.out; subst eo6))
 go_loopg [15] k (fun kq v15 w' => ∃ (x15_1 : Int), v15 = .int .i64 x15_1 ∧ Aside0 (impl_VersionOk.l0 kq y235 (y235.length : Int) x15_1 a0_0 a0_1 a0_2 l0_3 = some r) ∧ Aside0 (kq ≤ k) ∧ Aside0 (Kd.R (Kd.int .i64) 3 w' w.heap.size (fun _ => True) (.slice Ao6 y235.length co6) y235) ∧ Aside0 (w'.heap[gb234]? = some (.cells #[.int .i64 a0_0, .int .i64 a0_1, .int .i64 a0_2, (.slice A0_3 l0_3.length c0_3)] 50 (0, 0))) ∧ Aside0 (Below w.heap.size w w'))
 case atStart => exact ⟨(0), zb5, H', ⟨Nat.le_refl _⟩, ⟨by (with_reducible repeat (first | apply Kd.R_alloc | apply Kd.R_drewN | apply Kd.R_drew)); exact HO237.out⟩, ⟨by (with_reducible repeat (first | refine bN_ ?_ _ | refine bD_ ?_ | refine bA_ ?_ _)); exact BK234.out⟩, ⟨by repeat (first | (with_reducible first | exact HB.out | apply below_alloc | apply pw_below_drewN | apply below_drew1 | refine below_set ?_ GE234.out) | exact HB.out)⟩⟩
 case round =>
  clear H'
  try clear p2
  try clear hcz3_0
  try clear hcz3_1
  try clear hcz3_2
  try clear hcz3_3
  try clear hfz3_0
  try clear hfz3_1
  try clear hfz3_2
  try clear hfz3_3
  obtain ⟨x15_1, rfl, HA, HK1, HO_13, BK234, HB⟩ := hrel
  cases gk with
  | zero => exact absurd HA.out (by simp [impl_VersionOk.l0])
  | succ k1 =>
   have H := HA.out
   clear HA
   simp only [impl_VersionOk.l0] at H
   by_cases c7 : x15_1 < (y235.length : Int)
   ·rw [if_pos c7] at H
    have c7b0 : decide (x15_1 < (y235.length : Int)) = true := decide_eq_true c7
    clear c7
    by_cases c8 : 0 ≤ x15_1
    ·rw [if_pos c8] at H
     have c8b0 : decide (0 ≤ x15_1) = true := decide_eq_true c8
     clear c8
     by_cases c9 : x15_1 < (y235.length : Int)
     ·rw [if_pos c9] at H
      have c9b0 : decide (x15_1 < (y235.length : Int)) = true := decide_eq_true c9
      clear c9
      replace H := Option.bind_eq_some_iff.mp H
      obtain ⟨t239, A100, H⟩ := H
      replace H : (if t239 = true then (impl_VersionOk.l0 k1 y235 (y235.length : Int) (wrap64 (x15_1 + 1)) a0_0 a0_1 a0_2 l0_3) else (some false)) = some r := H
      have A10 := Aside0.mk A100
      clear A100
      by_cases c11 : t239 = true
      ·subst c11
       have H1 : (impl_VersionOk.l0 k1 y235 (y235.length : Int) (wrap64 (x15_1 + 1)) a0_0 a0_1 a0_2 l0_3) = some r := by rw [if_pos rfl] at H; exact H
       clear H
       have H := H1
       clear H1
       have H' := Aside0.mk H
       clear H
       have p238 : 0 ≤ (x15_1 : Int) := of_decide_eq_true zb4
       have q238 : x15_1 < (y235.length : Int) := of_decide_eq_true zb4
       obtain ⟨ad238, e238, hx238_0⟩ := Kd.at_int (Kd.R_reads' HO_13.out).2.2 x15_1 p238 q238
       cases e238
       replace p238 := eq_true p238
       replace q238 := eq_true q238
       go_wp2_with (first | ((with_reducible refine gate_callee (f := 61) rfl ?_); refine goesL_ (some 20) rfl rfl Tryz.func61 (by kernel_rfl) rfl #[.int .i64 (rd y235 x15_1), .int .i64 0, .int .i64 999999999] rfl zb1 ?_; (with_reducible refine (impl_within.calls (rd y235 x15_1) 0 999999999 true _ A10.out).mono ?_); rintro e w' ⟨rfl, ⟨nd, rfl⟩⟩; refine ⟨_, rfl, ?_⟩))
       go_roundg k1
       case measure => have := HK1.out; omega
       case rel => exact ⟨(wrap64 (x15_1 + 1)), zb5, H', ⟨by have := HK1.out; omega⟩, ⟨by (with_reducible repeat (first | apply Kd.R_alloc | apply Kd.R_drewN | apply Kd.R_drew)); exact HO_13.out⟩, ⟨by (with_reducible repeat (first | refine bN_ ?_ _ | refine bD_ ?_ | refine bA_ ?_ _)); exact BK234.out⟩, ⟨by repeat (first | (with_reducible first | exact HB.out | apply below_alloc | apply pw_below_drewN | apply below_drew1 | refine below_set ?_ GE234.out) | exact HB.out)⟩⟩
      ·replace c11 := Bool.eq_false_iff.mpr c11
       subst c11
       have H1 : (some false) = some r := by rw [if_neg (show ¬ (false = true) by decide)] at H; exact H
       clear H
       have H := H1
       clear H1
       obtain rfl := Option.some.inj H
       have p238 : 0 ≤ (x15_1 : Int) := of_decide_eq_true zb4
       have q238 : x15_1 < (y235.length : Int) := of_decide_eq_true zb4
       obtain ⟨ad238, e238, hx238_0⟩ := Kd.at_int (Kd.R_reads' HO_13.out).2.2 x15_1 p238 q238
       cases e238
       replace p238 := eq_true p238
       replace q238 := eq_true q238
       go_wp2_with (first | ((with_reducible refine gate_callee (f := 61) rfl ?_); refine goesL_ (some 20) rfl rfl Tryz.func61 (by kernel_rfl) rfl #[.int .i64 (rd y235 x15_1), .int .i64 0, .int .i64 999999999] rfl zb1 ?_; (with_reducible refine (impl_within.calls (rd y235 x15_1) 0 999999999 false _ A10.out).mono ?_); rintro e w' ⟨rfl, ⟨nd, rfl⟩⟩; refine ⟨_, rfl, ?_⟩))
       go_ret
       exact ⟨zb6, by repeat (first | (with_reducible first | exact HB.out | apply below_alloc | apply pw_below_drewN | apply below_drew1 | refine below_set ?_ GE234.out) | exact HB.out)⟩
     ·rw [if_neg c9] at H
      exact absurd H (by simp)
    ·rw [if_neg c8] at H
     exact absurd H (by simp)
   ·rw [if_neg c7] at H
    have c7b0 : decide (x15_1 < (y235.length : Int)) = false := decide_eq_false c7
    clear c7
    have H' := Aside0.mk H
    clear H
    have hcz12_0 : wr.cell? ⟨gb234, 0, none⟩ = some (.int .i64 a0_0) := (blk_cell BK234.out 0).trans rfl
    have hcz12_1 : wr.cell? ⟨gb234, 1, none⟩ = some (.int .i64 a0_1) := (blk_cell BK234.out 1).trans rfl
    have hcz12_2 : wr.cell? ⟨gb234, 2, none⟩ = some (.int .i64 a0_2) := (blk_cell BK234.out 2).trans rfl
    have hcz12_3 : wr.cell? ⟨gb234, 3, none⟩ = some (.slice A0_3 l0_3.length c0_3) := (blk_cell BK234.out 3).trans rfl
    have hfz12_0 := blk_frozen BK234.out 0
    have hfz12_1 := blk_frozen BK234.out 1
    have hfz12_2 := blk_frozen BK234.out 2
    have hfz12_3 := blk_frozen BK234.out 3
    go_wp2
    go_loopg [26] k1 (fun kq v26 w' => ∃ (x26_2 : Int), v26 = .int .i64 x26_2 ∧ Aside0 (impl_VersionOk.l1 kq l0_3 (l0_3.length : Int) x26_2 a0_0 a0_1 a0_2 l0_3 = some r) ∧ Aside0 (kq ≤ k1) ∧ Aside0 (w'.heap[gb234]? = some (.cells #[.int .i64 a0_0, .int .i64 a0_1, .int .i64 a0_2, (.slice A0_3 l0_3.length c0_3)] 50 (0, 0))) ∧ Aside0 (Below w.heap.size w w'))
    case atStart => exact ⟨(0), zb5, H', ⟨Nat.le_refl _⟩, ⟨by (with_reducible repeat (first | refine bN_ ?_ _ | refine bD_ ?_ | refine bA_ ?_ _)); exact BK234.out⟩, ⟨by repeat (first | (with_reducible first | exact HB.out | apply below_alloc | apply pw_below_drewN | apply below_drew1 | refine below_set ?_ GE234.out) | exact HB.out)⟩⟩
    case round =>
     clear H'
     try clear c1
     try clear p2
     try clear q2
     try clear hx2
     try clear c6
     try clear p6
     try clear c7
     try clear c7b0
     try clear c8
     try clear c8b0
     try clear c9
     try clear c9b0
     try clear c11
     try clear hcz12_0
     try clear hcz12_1
     try clear hcz12_2
     try clear hcz12_3
     try clear hcz3_0
     try clear hcz3_1
     try clear hcz3_2
     try clear hcz3_3
     try clear hfz12_0
     try clear hfz12_1
     try clear hfz12_2
     try clear hfz12_3
     try clear hfz3_0
     try clear hfz3_1
     try clear hfz3_2
     try clear hfz3_3
     try clear hx238_0
     try clear p2
     try clear p238
     try clear q238
     obtain ⟨x26_2, rfl, HA, HK2, BK234, HB⟩ := hrel
     cases gk with
     | zero => exact absurd HA.out (by simp [impl_VersionOk.l1])
     | succ k2 =>
      have H := HA.out
      clear HA
      simp only [impl_VersionOk.l1] at H
      by_cases c13 : x26_2 < (l0_3.length : Int)
      ·rw [if_pos c13] at H
       have c13b0 : decide (x26_2 < (l0_3.length : Int)) = true := decide_eq_true c13
       clear c13
       by_cases c14 : 0 ≤ x26_2
       ·rw [if_pos c14] at H
        have c14b0 : decide (0 ≤ x26_2) = true := decide_eq_true c14
        clear c14
        by_cases c15 : x26_2 < (l0_3.length : Int)
        ·rw [if_pos c15] at H
         have c15b0 : decide (x26_2 < (l0_3.length : Int)) = true := decide_eq_true c15
         clear c15
         replace H := Option.bind_eq_some_iff.mp H
         obtain ⟨t241, A160, H⟩ := H
         replace H : (if t241 = true then ((impl_all__impl_VersionOk_1.f k2 (rdOf ByteArray.empty l0_3 x26_2)).bind fun t242 => (if t242 = true then ((impl_isNumber.f k2 (rdOf ByteArray.empty l0_3 x26_2)).bind fun t243 => (if t243 = true then ((impl_ReadDec.f (rdOf ByteArray.empty l0_3 x26_2)).bind fun t244 => (if t244 < 0 then (some false) else (impl_VersionOk.l1 k2 l0_3 (l0_3.length : Int) (wrap64 (x26_2 + 1)) a0_0 a0_1 a0_2 l0_3))) else (impl_VersionOk.l1 k2 l0_3 (l0_3.length : Int) (wrap64 (x26_2 + 1)) a0_0 a0_1 a0_2 l0_3))) else (some false))) else (some false)) = some r := H
         have A16 := Aside0.mk A160
         clear A160
         by_cases c17 : t241 = true
         ·subst c17
          have H1 : ((impl_all__impl_VersionOk_1.f k2 (rdOf ByteArray.empty l0_3 x26_2)).bind fun t242 => (if t242 = true then ((impl_isNumber.f k2 (rdOf ByteArray.empty l0_3 x26_2)).bind fun t243 => (if t243 = true then ((impl_ReadDec.f (rdOf ByteArray.empty l0_3 x26_2)).bind fun t244 => (if t244 < 0 then (some false) else (impl_VersionOk.l1 k2 l0_3 (l0_3.length : Int) (wrap64 (x26_2 + 1)) a0_0 a0_1 a0_2 l0_3))) else (impl_VersionOk.l1 k2 l0_3 (l0_3.length : Int) (wrap64 (x26_2 + 1)) a0_0 a0_1 a0_2 l0_3))) else (some false))) = some r := by rw [if_pos rfl] at H; exact H
          clear H
          have H := H1
          clear H1
          replace H := Option.bind_eq_some_iff.mp H
          obtain ⟨t242, A180, H⟩ := H
          replace H : (if t242 = true then ((impl_isNumber.f k2 (rdOf ByteArray.empty l0_3 x26_2)).bind fun t243 => (if t243 = true then ((impl_ReadDec.f (rdOf ByteArray.empty l0_3 x26_2)).bind fun t244 => (if t244 < 0 then (some false) else (impl_VersionOk.l1 k2 l0_3 (l0_3.length : Int) (wrap64 (x26_2 + 1)) a0_0 a0_1 a0_2 l0_3))) else (impl_VersionOk.l1 k2 l0_3 (l0_3.length : Int) (wrap64 (x26_2 + 1)) a0_0 a0_1 a0_2 l0_3))) else (some false)) = some r := H
          have A18 := Aside0.mk A180
          clear A180
          by_cases c19 : t242 = true
          ·subst c19
           have H1 : ((impl_isNumber.f k2 (rdOf ByteArray.empty l0_3 x26_2)).bind fun t243 => (if t243 = true then ((impl_ReadDec.f (rdOf ByteArray.empty l0_3 x26_2)).bind fun t244 => (if t244 < 0 then (some false) else (impl_VersionOk.l1 k2 l0_3 (l0_3.length : Int) (wrap64 (x26_2 + 1)) a0_0 a0_1 a0_2 l0_3))) else (impl_VersionOk.l1 k2 l0_3 (l0_3.length : Int) (wrap64 (x26_2 + 1)) a0_0 a0_1 a0_2 l0_3))) = some r := by rw [if_pos rfl] at H; exact H
           clear H
           have H := H1
           clear H1
           replace H := Option.bind_eq_some_iff.mp H
           obtain ⟨t243, A200, H⟩ := H
           replace H : (if t243 = true then ((impl_ReadDec.f (rdOf ByteArray.empty l0_3 x26_2)).bind fun t244 => (if t244 < 0 then (some false) else (impl_VersionOk.l1 k2 l0_3 (l0_3.length : Int) (wrap64 (x26_2 + 1)) a0_0 a0_1 a0_2 l0_3))) else (impl_VersionOk.l1 k2 l0_3 (l0_3.length : Int) (wrap64 (x26_2 + 1)) a0_0 a0_1 a0_2 l0_3)) = some r := H
           have A20 := Aside0.mk A200
           clear A200
           by_cases c21 : t243 = true
           ·subst c21
            have H1 : ((impl_ReadDec.f (rdOf ByteArray.empty l0_3 x26_2)).bind fun t244 => (if t244 < 0 then (some false) else (impl_VersionOk.l1 k2 l0_3 (l0_3.length : Int) (wrap64 (x26_2 + 1)) a0_0 a0_1 a0_2 l0_3))) = some r := by rw [if_pos rfl] at H; exact H
            clear H
            have H := H1
            clear H1
            replace H := Option.bind_eq_some_iff.mp H
            obtain ⟨t244, A220, H⟩ := H
            replace H : (if t244 < 0 then (some false) else (impl_VersionOk.l1 k2 l0_3 (l0_3.length : Int) (wrap64 (x26_2 + 1)) a0_0 a0_1 a0_2 l0_3)) = some r := H
            have A22 := Aside0.mk A220
            clear A220
            by_cases c23 : t244 < 0
            ·rw [if_pos c23] at H
             have c23b0 : decide (t244 < 0) = true := decide_eq_true c23
             clear c23
             obtain rfl := Option.some.inj H
             have p240 : 0 ≤ (x26_2 : Int) := of_decide_eq_true zb4
             have q240 : x26_2 < (l0_3.length : Int) := of_decide_eq_true zb4
             obtain ⟨ad240, e240, hx240_0⟩ := Kd.at_string HR0_3.out x26_2 p240 q240
             cases e240
             replace hx240_0 := (HB.out.cell (World.block_lt_of_cell? w _ hx240_0)).trans hx240_0
             replace p240 := eq_true p240
             replace q240 := eq_true q240
             go_wp2_with (first | ((with_reducible refine gate_callee (f := 61) rfl ?_); refine goesL_ (some 32) rfl rfl Tryz.func61 (by kernel_rfl) rfl #[.int .i64 ((rdOf ByteArray.empty l0_3 x26_2).size : Int), .int .i64 1, .int .i64 20] rfl zb1 ?_; (with_reducible refine (impl_within.calls ((rdOf ByteArray.empty l0_3 x26_2).size : Int) 1 20 true _ A16.out).mono ?_); rintro e w' ⟨rfl, ⟨nd, rfl⟩⟩; refine ⟨_, rfl, ?_⟩) | (go_at_call 69; (with_reducible refine (impl_all__impl_VersionOk_1.calls k2 (rdOf ByteArray.empty l0_3 x26_2) true _ A18.out).mono ?_); rintro e w' ⟨rfl, ⟨nd, rfl⟩⟩) | (go_at_call 117; (with_reducible refine (impl_isNumber.calls k2 (rdOf ByteArray.empty l0_3 x26_2) true _ A20.out).mono ?_); rintro e w' ⟨rfl, ⟨nd, rfl⟩⟩) | (go_at_call 59; (with_reducible refine (impl_ReadDec.calls (rdOf ByteArray.empty l0_3 x26_2) t244 _ ?side1 ?side2 A22.out).mono ?_); (case side1 => exact Glob.below HGE.out (by repeat (first | (with_reducible first | exact HB.out | apply below_alloc | apply pw_below_drewN | apply below_drew1 | refine below_set ?_ GE234.out) | exact HB.out))); (case side2 => exact Glob.below HGT.out (by repeat (first | (with_reducible first | exact HB.out | apply below_alloc | apply pw_below_drewN | apply below_drew1 | refine below_set ?_ GE234.out) | exact HB.out))); rintro e w24 ⟨rfl, hb⟩; have n0_ := Aside0.mk (blk_below (g := gb234) (o := .cells #[.int .i64 a0_0, .int .i64 a0_1, .int .i64 a0_2, .slice (some ad240) l0_3.length c0_3] 50 (0, 0)) (by (with_reducible repeat (first | refine bN_ ?_ _ | refine bD_ ?_ | refine bA_ ?_ _)); exact BK234.out) hb); have n1_ := Aside0.mk (below_step (by repeat (first | (with_reducible first | exact HB.out | apply below_alloc | apply pw_below_drewN | apply below_drew1 | refine below_set ?_ GE234.out) | exact HB.out)) hb); clear BK234; clear HB; have BK234 := n0_; have HB := n1_; clear n0_ n1_; (try clear hb); (try clear hb2); (try clear hk); (try clear hi)))
             go_ret
             exact ⟨zb6, by repeat (first | (with_reducible first | exact HB.out | apply below_alloc | apply pw_below_drewN | apply below_drew1 | refine below_set ?_ GE234.out) | exact HB.out)⟩
            ·rw [if_neg c23] at H
             have c23b0 : decide (t244 < 0) = false := decide_eq_false c23
             clear c23
             have H' := Aside0.mk H
             clear H
             have p240 : 0 ≤ (x26_2 : Int) := of_decide_eq_true zb4
             have q240 : x26_2 < (l0_3.length : Int) := of_decide_eq_true zb4
             obtain ⟨ad240, e240, hx240_0⟩ := Kd.at_string HR0_3.out x26_2 p240 q240
             cases e240
             replace hx240_0 := (HB.out.cell (World.block_lt_of_cell? w _ hx240_0)).trans hx240_0
             replace p240 := eq_true p240
             replace q240 := eq_true q240
             go_wp2_with (first | ((with_reducible refine gate_callee (f := 61) rfl ?_); refine goesL_ (some 32) rfl rfl Tryz.func61 (by kernel_rfl) rfl #[.int .i64 ((rdOf ByteArray.empty l0_3 x26_2).size : Int), .int .i64 1, .int .i64 20] rfl zb1 ?_; (with_reducible refine (impl_within.calls ((rdOf ByteArray.empty l0_3 x26_2).size : Int) 1 20 true _ A16.out).mono ?_); rintro e w' ⟨rfl, ⟨nd, rfl⟩⟩; refine ⟨_, rfl, ?_⟩) | (go_at_call 69; (with_reducible refine (impl_all__impl_VersionOk_1.calls k2 (rdOf ByteArray.empty l0_3 x26_2) true _ A18.out).mono ?_); rintro e w' ⟨rfl, ⟨nd, rfl⟩⟩) | (go_at_call 117; (with_reducible refine (impl_isNumber.calls k2 (rdOf ByteArray.empty l0_3 x26_2) true _ A20.out).mono ?_); rintro e w' ⟨rfl, ⟨nd, rfl⟩⟩) | (go_at_call 59; (with_reducible refine (impl_ReadDec.calls (rdOf ByteArray.empty l0_3 x26_2) t244 _ ?side1 ?side2 A22.out).mono ?_); (case side1 => exact Glob.below HGE.out (by repeat (first | (with_reducible first | exact HB.out | apply below_alloc | apply pw_below_drewN | apply below_drew1 | refine below_set ?_ GE234.out) | exact HB.out))); (case side2 => exact Glob.below HGT.out (by repeat (first | (with_reducible first | exact HB.out | apply below_alloc | apply pw_below_drewN | apply below_drew1 | refine below_set ?_ GE234.out) | exact HB.out))); rintro e w25 ⟨rfl, hb⟩; have n0_ := Aside0.mk (blk_below (g := gb234) (o := .cells #[.int .i64 a0_0, .int .i64 a0_1, .int .i64 a0_2, .slice (some ad240) l0_3.length c0_3] 50 (0, 0)) (by (with_reducible repeat (first | refine bN_ ?_ _ | refine bD_ ?_ | refine bA_ ?_ _)); exact BK234.out) hb); have n1_ := Aside0.mk (below_step (by repeat (first | (with_reducible first | exact HB.out | apply below_alloc | apply pw_below_drewN | apply below_drew1 | refine below_set ?_ GE234.out) | exact HB.out)) hb); clear BK234; clear HB; have BK234 := n0_; have HB := n1_; clear n0_ n1_; (try clear hb); (try clear hb2); (try clear hk); (try clear hi)))
             go_roundg k2
             case measure => have := HK1.out; have := HK2.out; omega
             case rel => exact ⟨(wrap64 (x26_2 + 1)), zb5, H', ⟨by have := HK1.out; have := HK2.out; omega⟩, ⟨by (with_reducible repeat (first | refine bN_ ?_ _ | refine bD_ ?_ | refine bA_ ?_ _)); exact BK234.out⟩, ⟨by repeat (first | (with_reducible first | exact HB.out | apply below_alloc | apply pw_below_drewN | apply below_drew1 | refine below_set ?_ GE234.out) | exact HB.out)⟩⟩
           ·replace c21 := Bool.eq_false_iff.mpr c21
            subst c21
            have H1 : (impl_VersionOk.l1 k2 l0_3 (l0_3.length : Int) (wrap64 (x26_2 + 1)) a0_0 a0_1 a0_2 l0_3) = some r := by rw [if_neg (show ¬ (false = true) by decide)] at H; exact H
            clear H
            have H := H1
            clear H1
            have H' := Aside0.mk H
            clear H
            have p240 : 0 ≤ (x26_2 : Int) := of_decide_eq_true zb4
            have q240 : x26_2 < (l0_3.length : Int) := of_decide_eq_true zb4
            obtain ⟨ad240, e240, hx240_0⟩ := Kd.at_string HR0_3.out x26_2 p240 q240
            cases e240
            replace hx240_0 := (HB.out.cell (World.block_lt_of_cell? w _ hx240_0)).trans hx240_0
            replace p240 := eq_true p240
            replace q240 := eq_true q240
            go_wp2_with (first | ((with_reducible refine gate_callee (f := 61) rfl ?_); refine goesL_ (some 32) rfl rfl Tryz.func61 (by kernel_rfl) rfl #[.int .i64 ((rdOf ByteArray.empty l0_3 x26_2).size : Int), .int .i64 1, .int .i64 20] rfl zb1 ?_; (with_reducible refine (impl_within.calls ((rdOf ByteArray.empty l0_3 x26_2).size : Int) 1 20 true _ A16.out).mono ?_); rintro e w' ⟨rfl, ⟨nd, rfl⟩⟩; refine ⟨_, rfl, ?_⟩) | (go_at_call 69; (with_reducible refine (impl_all__impl_VersionOk_1.calls k2 (rdOf ByteArray.empty l0_3 x26_2) true _ A18.out).mono ?_); rintro e w' ⟨rfl, ⟨nd, rfl⟩⟩) | (go_at_call 117; (with_reducible refine (impl_isNumber.calls k2 (rdOf ByteArray.empty l0_3 x26_2) false _ A20.out).mono ?_); rintro e w' ⟨rfl, ⟨nd, rfl⟩⟩))
            go_roundg k2
            case measure => have := HK1.out; have := HK2.out; omega
            case rel => exact ⟨(wrap64 (x26_2 + 1)), zb5, H', ⟨by have := HK1.out; have := HK2.out; omega⟩, ⟨by (with_reducible repeat (first | refine bN_ ?_ _ | refine bD_ ?_ | refine bA_ ?_ _)); exact BK234.out⟩, ⟨by repeat (first | (with_reducible first | exact HB.out | apply below_alloc | apply pw_below_drewN | apply below_drew1 | refine below_set ?_ GE234.out) | exact HB.out)⟩⟩
          ·replace c19 := Bool.eq_false_iff.mpr c19
           subst c19
           have H1 : (some false) = some r := by rw [if_neg (show ¬ (false = true) by decide)] at H; exact H
           clear H
           have H := H1
           clear H1
           obtain rfl := Option.some.inj H
           have p240 : 0 ≤ (x26_2 : Int) := of_decide_eq_true zb4
           have q240 : x26_2 < (l0_3.length : Int) := of_decide_eq_true zb4
           obtain ⟨ad240, e240, hx240_0⟩ := Kd.at_string HR0_3.out x26_2 p240 q240
           cases e240
           replace hx240_0 := (HB.out.cell (World.block_lt_of_cell? w _ hx240_0)).trans hx240_0
           replace p240 := eq_true p240
           replace q240 := eq_true q240
           go_wp2_with (first | ((with_reducible refine gate_callee (f := 61) rfl ?_); refine goesL_ (some 32) rfl rfl Tryz.func61 (by kernel_rfl) rfl #[.int .i64 ((rdOf ByteArray.empty l0_3 x26_2).size : Int), .int .i64 1, .int .i64 20] rfl zb1 ?_; (with_reducible refine (impl_within.calls ((rdOf ByteArray.empty l0_3 x26_2).size : Int) 1 20 true _ A16.out).mono ?_); rintro e w' ⟨rfl, ⟨nd, rfl⟩⟩; refine ⟨_, rfl, ?_⟩) | (go_at_call 69; (with_reducible refine (impl_all__impl_VersionOk_1.calls k2 (rdOf ByteArray.empty l0_3 x26_2) false _ A18.out).mono ?_); rintro e w' ⟨rfl, ⟨nd, rfl⟩⟩))
           go_ret
           exact ⟨zb6, by repeat (first | (with_reducible first | exact HB.out | apply below_alloc | apply pw_below_drewN | apply below_drew1 | refine below_set ?_ GE234.out) | exact HB.out)⟩
         ·replace c17 := Bool.eq_false_iff.mpr c17
          subst c17
          have H1 : (some false) = some r := by rw [if_neg (show ¬ (false = true) by decide)] at H; exact H
          clear H
          have H := H1
          clear H1
          obtain rfl := Option.some.inj H
          have p240 : 0 ≤ (x26_2 : Int) := of_decide_eq_true zb4
          have q240 : x26_2 < (l0_3.length : Int) := of_decide_eq_true zb4
          obtain ⟨ad240, e240, hx240_0⟩ := Kd.at_string HR0_3.out x26_2 p240 q240
          cases e240
          replace hx240_0 := (HB.out.cell (World.block_lt_of_cell? w _ hx240_0)).trans hx240_0
          replace p240 := eq_true p240
          replace q240 := eq_true q240
          go_wp2_with (first | ((with_reducible refine gate_callee (f := 61) rfl ?_); refine goesL_ (some 32) rfl rfl Tryz.func61 (by kernel_rfl) rfl #[.int .i64 ((rdOf ByteArray.empty l0_3 x26_2).size : Int), .int .i64 1, .int .i64 20] rfl zb1 ?_; (with_reducible refine (impl_within.calls ((rdOf ByteArray.empty l0_3 x26_2).size : Int) 1 20 false _ A16.out).mono ?_); rintro e w' ⟨rfl, ⟨nd, rfl⟩⟩; refine ⟨_, rfl, ?_⟩))
          go_ret
          exact ⟨zb6, by repeat (first | (with_reducible first | exact HB.out | apply below_alloc | apply pw_below_drewN | apply below_drew1 | refine below_set ?_ GE234.out) | exact HB.out)⟩
        ·rw [if_neg c15] at H
         exact absurd H (by simp)
       ·rw [if_neg c14] at H
        exact absurd H (by simp)
      ·rw [if_neg c13] at H
       have c13b0 : decide (x26_2 < (l0_3.length : Int)) = false := decide_eq_false c13
       clear c13
       obtain rfl := Option.some.inj H
       have hcz26_0 : wr.cell? ⟨gb234, 0, none⟩ = some (.int .i64 a0_0) := (blk_cell BK234.out 0).trans rfl
       have hcz26_1 : wr.cell? ⟨gb234, 1, none⟩ = some (.int .i64 a0_1) := (blk_cell BK234.out 1).trans rfl
       have hcz26_2 : wr.cell? ⟨gb234, 2, none⟩ = some (.int .i64 a0_2) := (blk_cell BK234.out 2).trans rfl
       have hcz26_3 : wr.cell? ⟨gb234, 3, none⟩ = some (.slice A0_3 l0_3.length c0_3) := (blk_cell BK234.out 3).trans rfl
       have hfz26_0 := blk_frozen BK234.out 0
       have hfz26_1 := blk_frozen BK234.out 1
       have hfz26_2 := blk_frozen BK234.out 2
       have hfz26_3 := blk_frozen BK234.out 3
       go_wp2
       go_ret
       exact ⟨zb6, by repeat (first | (with_reducible first | exact HB.out | apply below_alloc | apply pw_below_drewN | apply below_drew1 | refine below_set ?_ GE234.out) | exact HB.out)⟩

end Go.Proofs.YtbepbfibanmhoaaGreatDoor.G
