-- PRINTED by print.py (a twelfth state) out of the translation. Not trusted: Lean checks it.
import Derived.Test.YtgfaphlpkjikkaaDoorG0
import Derived.Test.YtgfaphlpkjikkaaDoorGspecl02Less
import Derived.Test.YtgfaphlpkjikkaaDoorGspecl02Part
namespace Go.Proofs.YtgfaphlpkjikkaaDoor.G
open Go.RowKit Go.Proofs.YtgfaphlpkjikkaaDoorW.PrintWords Go.Proofs.YtgfaphlpkjikkaaDoorW.PrintLast Go.Proofs.YtgfaphlpkjikkaaDoorW.PrintMore
attribute [local go_sem] max2_int min2_int max_two min_two max_three min_three max_four min_four   -- for this text's walks alone
attribute [local go_sem high] Go.Proofs.YtgfaphlpkjikkaaDoor.G.str_gtr Go.Proofs.YtgfaphlpkjikkaaDoor.G.str_leq Go.Proofs.YtgfaphlpkjikkaaDoor.G.str_geq
set_option linter.unusedVariables false
set_option linter.unusedSimpArgs false

/-! ### spec_CompareVersion: function 164 -/
mutual
def spec_CompareVersion.l0 : Nat → List Int → Int → Int → Int → Int → List ByteArray → Int → Int → Int → List ByteArray → Option (Int)
 | 0, _, _, _, _, _, _, _, _, _, _ => none
 | k + 1, x5, x6, x882000, x882001, x882002, x882003, x883000, x883001, x883002, x883003 => if x6 < 3 then (if 0 ≤ x6 then (if x6 < (x5.length : Int) then (if (rd x5 x6) = 0 then (spec_CompareVersion.l0 k x5 (wrap64 (x6 + 1)) x882000 x882001 x882002 x882003 x883000 x883001 x883002 x883003) else (some (rd x5 x6))) else (none)) else (none)) else (if (x882003.length : Int) = 0 then (spec_CompareVersion.j1 k true x882000 x882001 x882002 x882003 x883000 x883001 x883002 x883003) else (spec_CompareVersion.j1 k ((x883003.length : Int) == 0) x882000 x882001 x882002 x882003 x883000 x883001 x883002 x883003))
def spec_CompareVersion.j1 : Nat → Bool → Int → Int → Int → List ByteArray → Int → Int → Int → List ByteArray → Option (Int)
 | 0, _, _, _, _, _, _, _, _, _ => none
 | k + 1, x47, x882000, x882001, x882002, x882003, x883000, x883001, x883002, x883003 => if x47 = true then ((spec_l02Less.f (x883003.length : Int) (x882003.length : Int)).bind fun t891 => (some t891)) else (spec_CompareVersion.l1 k 0 x882000 x882001 x882002 x882003 x883000 x883001 x883002 x883003)
def spec_CompareVersion.l1 : Nat → Int → Int → Int → Int → List ByteArray → Int → Int → Int → List ByteArray → Option (Int)
 | 0, _, _, _, _, _, _, _, _, _ => none
 | k + 1, x7, x882000, x882001, x882002, x882003, x883000, x883001, x883002, x883003 => if x7 < (x882003.length : Int) then (spec_CompareVersion.j3 k x7 (decide (x7 < (x883003.length : Int))) x882000 x882001 x882002 x882003 x883000 x883001 x883002 x883003) else (spec_CompareVersion.j3 k x7 false x882000 x882001 x882002 x882003 x883000 x883001 x883002 x883003)
def spec_CompareVersion.j3 : Nat → Int → Bool → Int → Int → Int → List ByteArray → Int → Int → Int → List ByteArray → Option (Int)
 | 0, _, _, _, _, _, _, _, _, _, _ => none
 | k + 1, x7, x66, x882000, x882001, x882002, x882003, x883000, x883001, x883002, x883003 => if x66 = true then (if 0 ≤ x7 then (if x7 < (x882003.length : Int) then (if x7 < (x883003.length : Int) then ((spec_l02Part.f k (rdOf ByteArray.empty x882003 x7) (rdOf ByteArray.empty x883003 x7)).bind fun t894 => (if t894 = 0 then (spec_CompareVersion.l1 k (wrap64 (x7 + 1)) x882000 x882001 x882002 x882003 x883000 x883001 x883002 x883003) else (some t894))) else (none)) else (none)) else (none)) else ((spec_l02Less.f (x882003.length : Int) (x883003.length : Int)).bind fun t895 => (some t895))
end
def spec_CompareVersion.f (k : Nat) (a0_0 : Int) (a0_1 : Int) (a0_2 : Int) (l0_3 : List ByteArray) (a1_0 : Int) (a1_1 : Int) (a1_2 : Int) (l1_3 : List ByteArray) : Option (Int) := (spec_l02Less.f a0_0 a1_0).bind fun t883 => ((spec_l02Less.f a0_1 a1_1).bind fun t884 => ((spec_l02Less.f a0_2 a1_2).bind fun t885 => (spec_CompareVersion.l0 k (([t883, t884, t885] : List Int)) 0 a0_0 a0_1 a0_2 l0_3 a1_0 a1_1 a1_2 l1_3)))
theorem spec_CompareVersion.mono_l : ∀ k, (∀ y0 y1 y2 y3 y4 y5 y6 y7 y8 y9, LeO (spec_CompareVersion.l0 k y0 y1 y2 y3 y4 y5 y6 y7 y8 y9) (spec_CompareVersion.l0 (k + 1) y0 y1 y2 y3 y4 y5 y6 y7 y8 y9)) ∧ (∀ y0 y1 y2 y3 y4 y5 y6 y7 y8, LeO (spec_CompareVersion.j1 k y0 y1 y2 y3 y4 y5 y6 y7 y8) (spec_CompareVersion.j1 (k + 1) y0 y1 y2 y3 y4 y5 y6 y7 y8)) ∧ (∀ y0 y1 y2 y3 y4 y5 y6 y7 y8, LeO (spec_CompareVersion.l1 k y0 y1 y2 y3 y4 y5 y6 y7 y8) (spec_CompareVersion.l1 (k + 1) y0 y1 y2 y3 y4 y5 y6 y7 y8)) ∧ (∀ y0 y1 y2 y3 y4 y5 y6 y7 y8 y9, LeO (spec_CompareVersion.j3 k y0 y1 y2 y3 y4 y5 y6 y7 y8 y9) (spec_CompareVersion.j3 (k + 1) y0 y1 y2 y3 y4 y5 y6 y7 y8 y9))
 | 0 => ⟨fun _ _ _ _ _ _ _ _ _ _ r h => by simp [spec_CompareVersion.l0] at h, fun _ _ _ _ _ _ _ _ _ r h => by simp [spec_CompareVersion.j1] at h, fun _ _ _ _ _ _ _ _ _ r h => by simp [spec_CompareVersion.l1] at h, fun _ _ _ _ _ _ _ _ _ _ r h => by simp [spec_CompareVersion.j3] at h⟩
 | k + 1 => by
  obtain ⟨ih0, ih1, ih2, ih3⟩ := spec_CompareVersion.mono_l k
  refine ⟨?_, ?_, ?_, ?_⟩
  ·intro y0 y1 y2 y3 y4 y5 y6 y7 y8 y9
   unfold spec_CompareVersion.l0
   repeat' first
   | (with_reducible exact ih0 _ _ _ _ _ _ _ _ _ _)
   | (with_reducible exact ih1 _ _ _ _ _ _ _ _ _)
   | (with_reducible exact ih2 _ _ _ _ _ _ _ _ _)
   | (with_reducible exact ih3 _ _ _ _ _ _ _ _ _ _)
   | (with_reducible exact spec_l02Part.mono _ _ _)
   | (with_reducible exact LeO.refl _)
   | (with_reducible exact LeO.none _)
   | (with_reducible refine LeO.ite ?_ ?_)
   | (with_reducible refine LeO.bind ?_ (fun _ => ?_))
   | exact ih0 _ _ _ _ _ _ _ _ _ _
   | exact ih1 _ _ _ _ _ _ _ _ _
   | exact ih2 _ _ _ _ _ _ _ _ _
   | exact ih3 _ _ _ _ _ _ _ _ _ _
   | exact spec_l02Part.mono _ _ _
   | exact LeO.none _
   | refine LeO.ite ?_ ?_
   | refine LeO.bind ?_ (fun _ => ?_)
  ·intro y0 y1 y2 y3 y4 y5 y6 y7 y8
   unfold spec_CompareVersion.j1
   repeat' first
   | (with_reducible exact ih0 _ _ _ _ _ _ _ _ _ _)
   | (with_reducible exact ih1 _ _ _ _ _ _ _ _ _)
   | (with_reducible exact ih2 _ _ _ _ _ _ _ _ _)
   | (with_reducible exact ih3 _ _ _ _ _ _ _ _ _ _)
   | (with_reducible exact spec_l02Part.mono _ _ _)
   | (with_reducible exact LeO.refl _)
   | (with_reducible exact LeO.none _)
   | (with_reducible refine LeO.ite ?_ ?_)
   | (with_reducible refine LeO.bind ?_ (fun _ => ?_))
   | exact ih0 _ _ _ _ _ _ _ _ _ _
   | exact ih1 _ _ _ _ _ _ _ _ _
   | exact ih2 _ _ _ _ _ _ _ _ _
   | exact ih3 _ _ _ _ _ _ _ _ _ _
   | exact spec_l02Part.mono _ _ _
   | exact LeO.none _
   | refine LeO.ite ?_ ?_
   | refine LeO.bind ?_ (fun _ => ?_)
  ·intro y0 y1 y2 y3 y4 y5 y6 y7 y8
   unfold spec_CompareVersion.l1
   repeat' first
   | (with_reducible exact ih0 _ _ _ _ _ _ _ _ _ _)
   | (with_reducible exact ih1 _ _ _ _ _ _ _ _ _)
   | (with_reducible exact ih2 _ _ _ _ _ _ _ _ _)
   | (with_reducible exact ih3 _ _ _ _ _ _ _ _ _ _)
   | (with_reducible exact spec_l02Part.mono _ _ _)
   | (with_reducible exact LeO.refl _)
   | (with_reducible exact LeO.none _)
   | (with_reducible refine LeO.ite ?_ ?_)
   | (with_reducible refine LeO.bind ?_ (fun _ => ?_))
   | exact ih0 _ _ _ _ _ _ _ _ _ _
   | exact ih1 _ _ _ _ _ _ _ _ _
   | exact ih2 _ _ _ _ _ _ _ _ _
   | exact ih3 _ _ _ _ _ _ _ _ _ _
   | exact spec_l02Part.mono _ _ _
   | exact LeO.none _
   | refine LeO.ite ?_ ?_
   | refine LeO.bind ?_ (fun _ => ?_)
  ·intro y0 y1 y2 y3 y4 y5 y6 y7 y8 y9
   unfold spec_CompareVersion.j3
   repeat' first
   | (with_reducible exact ih0 _ _ _ _ _ _ _ _ _ _)
   | (with_reducible exact ih1 _ _ _ _ _ _ _ _ _)
   | (with_reducible exact ih2 _ _ _ _ _ _ _ _ _)
   | (with_reducible exact ih3 _ _ _ _ _ _ _ _ _ _)
   | (with_reducible exact spec_l02Part.mono _ _ _)
   | (with_reducible exact LeO.refl _)
   | (with_reducible exact LeO.none _)
   | (with_reducible refine LeO.ite ?_ ?_)
   | (with_reducible refine LeO.bind ?_ (fun _ => ?_))
   | exact ih0 _ _ _ _ _ _ _ _ _ _
   | exact ih1 _ _ _ _ _ _ _ _ _
   | exact ih2 _ _ _ _ _ _ _ _ _
   | exact ih3 _ _ _ _ _ _ _ _ _ _
   | exact spec_l02Part.mono _ _ _
   | exact LeO.none _
   | refine LeO.ite ?_ ?_
   | refine LeO.bind ?_ (fun _ => ?_)
theorem spec_CompareVersion.mono : ∀ a0 a1 a2 a3 a4 a5 a6 a7 k, LeO (spec_CompareVersion.f k a0 a1 a2 a3 a4 a5 a6 a7) (spec_CompareVersion.f (k + 1) a0 a1 a2 a3 a4 a5 a6 a7) := by
 intro a0 a1 a2 a3 a4 a5 a6 a7 k
 obtain ⟨ih0, ih1, ih2, ih3⟩ := spec_CompareVersion.mono_l k
 unfold spec_CompareVersion.f
 repeat' first
   | (with_reducible exact ih0 _ _ _ _ _ _ _ _ _ _)
   | (with_reducible exact ih1 _ _ _ _ _ _ _ _ _)
   | (with_reducible exact ih2 _ _ _ _ _ _ _ _ _)
   | (with_reducible exact ih3 _ _ _ _ _ _ _ _ _ _)
   | (with_reducible exact spec_l02Part.mono _ _ _)
   | (with_reducible exact LeO.refl _)
   | (with_reducible exact LeO.none _)
   | (with_reducible refine LeO.ite ?_ ?_)
   | (with_reducible refine LeO.bind ?_ (fun _ => ?_))
   | exact ih0 _ _ _ _ _ _ _ _ _ _
   | exact ih1 _ _ _ _ _ _ _ _ _
   | exact ih2 _ _ _ _ _ _ _ _ _
   | exact ih3 _ _ _ _ _ _ _ _ _ _
   | exact spec_l02Part.mono _ _ _
   | exact LeO.none _
   | refine LeO.ite ?_ ?_
   | refine LeO.bind ?_ (fun _ => ?_)
def spec_CompareVersion.T1 : Bool × List (List Nat × List Nat) := (true, [([], []), ([0], [0]), ([], []), ([2], [2]), ([1, 3], [1, 3]), ([], []), ([5], [5]), ([], []), ([7], [7]), ([6, 8, 4], [6, 8]), ([], []), ([10], [10]), ([], []), ([12], [12]), ([11, 13, 9], [11, 13]), ([4, 9, 14], [4, 9, 14]), ([15, 14, 0, 1, 2, 3, 4, 5, 6, 7, 8, 9, 10, 11, 12, 13, 14, 15], [15])])
def spec_CompareVersion.B1 : List Nat := [0, 1, 0, 4, 15, 0, 32, 0, 128, 511, 0, 1024, 0, 4096, 16383, 32767, 65535]
theorem spec_CompareVersion.tab1 : rtab .any (opsOf Tryd.f164 1) = spec_CompareVersion.T1 := by kernel_rfl
theorem spec_CompareVersion.bits1 : waitsOk spec_CompareVersion.T1.2 spec_CompareVersion.B1 = true := by kernel_rfl
def spec_CompareVersion.T12 : Bool × List (List Nat × List Nat) := (true, [([], []), ([0], [0]), ([], []), ([1, 2], [1, 2]), ([3], [3]), ([], []), ([5], [5]), ([], []), ([6, 7], [6, 7]), ([8], [8]), ([4, 9], [4, 9]), ([10, 10, 0, 1, 2, 3, 4, 5, 6, 7, 8, 9, 10], [10])])
def spec_CompareVersion.B12 : List Nat := [0, 1, 0, 7, 15, 0, 32, 0, 224, 480, 1023, 2047]
theorem spec_CompareVersion.tab12 : rtab .any (opsOf Tryd.f164 12) = spec_CompareVersion.T12 := by kernel_rfl
theorem spec_CompareVersion.bits12 : waitsOk spec_CompareVersion.T12.2 spec_CompareVersion.B12 = true := by kernel_rfl
set_option maxHeartbeats 8000000 in
set_option maxRecDepth 100000 in
theorem spec_CompareVersion.calls (k : Nat) (a0_0 : Int) (a0_1 : Int) (a0_2 : Int) (A0_3 : Option Addr) (c0_3 : Nat) (l0_3 : List ByteArray) (a1_0 : Int) (a1_1 : Int) (a1_2 : Int) (A1_3 : Option Addr) (c1_3 : Nat) (l1_3 : List ByteArray) (r : Int) (w : World) (hr0_3 : Kd.C Kd.string w A0_3 l0_3.length l0_3) (hc0_3 : l0_3.length ≤ c0_3) (hr1_3 : Kd.C Kd.string w A1_3 l1_3.length l1_3) (hc1_3 : l1_3.length ≤ c1_3) (h : spec_CompareVersion.f k a0_0 a0_1 a0_2 l0_3 a1_0 a1_1 a1_2 l1_3 = some r) :
  Calls Tryd.prog 164 #[.agg #[.int .i64 a0_0, .int .i64 a0_1, .int .i64 a0_2, .slice A0_3 l0_3.length c0_3], .agg #[.int .i64 a1_0, .int .i64 a1_1, .int .i64 a1_2, .slice A1_3 l1_3.length c1_3]] w fun e w' => e = .returned (.int .i64 r) ∧ Below w.heap.size w w' := by
 have hu37 := Tryd.underlying37
 have HR0_3 := Aside0.mk hr0_3
 have HC0_3 := Aside0.mk hc0_3
 clear hr0_3 hc0_3
 have HR1_3 := Aside0.mk hr1_3
 have HC1_3 := Aside0.mk hc1_3
 clear hr1_3 hc1_3
 have HB := Aside0.mk (Below.refl w.heap.size w)
 have H : ((spec_l02Less.f a0_0 a1_0).bind fun t883 => ((spec_l02Less.f a0_1 a1_1).bind fun t884 => ((spec_l02Less.f a0_2 a1_2).bind fun t885 => (spec_CompareVersion.l0 k (([t883, t884, t885] : List Int)) 0 a0_0 a0_1 a0_2 l0_3 a1_0 a1_1 a1_2 l1_3)))) = some r := h
 clear h
 replace H := Option.bind_eq_some_iff.mp H
 obtain ⟨t883, A30, H⟩ := H
 replace H : ((spec_l02Less.f a0_1 a1_1).bind fun t884 => ((spec_l02Less.f a0_2 a1_2).bind fun t885 => (spec_CompareVersion.l0 k (([t883, t884, t885] : List Int)) 0 a0_0 a0_1 a0_2 l0_3 a1_0 a1_1 a1_2 l1_3))) = some r := H
 have A3 := Aside0.mk A30
 clear A30
 replace H := Option.bind_eq_some_iff.mp H
 obtain ⟨t884, A40, H⟩ := H
 replace H : ((spec_l02Less.f a0_2 a1_2).bind fun t885 => (spec_CompareVersion.l0 k (([t883, t884, t885] : List Int)) 0 a0_0 a0_1 a0_2 l0_3 a1_0 a1_1 a1_2 l1_3)) = some r := H
 have A4 := Aside0.mk A40
 clear A40
 replace H := Option.bind_eq_some_iff.mp H
 obtain ⟨t885, A50, H⟩ := H
 replace H : (spec_CompareVersion.l0 k (([t883, t884, t885] : List Int)) 0 a0_0 a0_1 a0_2 l0_3 a1_0 a1_1 a1_2 l1_3) = some r := H
 have A5 := Aside0.mk A50
 clear A50
 obtain ⟨y886, hy886⟩ : ∃ y_ : List Int, y_ = (([t883, t884, t885] : List Int)) := ⟨_, rfl⟩
 replace H : (spec_CompareVersion.l0 k y886 0 a0_0 a0_1 a0_2 l0_3 a1_0 a1_1 a1_2 l1_3) = some r := by first | (rw [hy886]; with_reducible exact H) | (have H2_ := (Option.bind_some _ _).symm.trans H; rw [hy886]; with_reducible exact H2_) | (have H2_ := (Option.bind_some _ _).symm.trans H; with_reducible exact H2_) | with_reducible exact H | (rw [hy886]; exact H) | exact H
 have Ny886 := Aside0.mk hy886
 clear hy886
 have H' := Aside0.mk H
 clear H
 go_enter Tryd.func164, Tryd.ntmps164
 try go_wp2_with (first | ((with_reducible refine gate_dst (N := 2) rfl ?_); refine box_event ?hg (N := 2) ?hd (cs := #[.int .i64 a0_0, .int .i64 a0_1, .int .i64 a0_2, .slice A0_3 l0_3.length c0_3]) (t := 37) ?hr ?_; (case hd => rfl); (case hg => rfl); (case hr => first | (go_simp; done) | (go_simp; rfl)); intro gb881 hg w6 hbox hb; have n0_ := Aside0.mk (below_step zb0 hb); have n1_ := Aside0.mk (hbox); have n2_ := Aside0.mk ((by rw [hg]; exact (below_size zb0) : w.heap.size ≤ gb881)); have n3_ := Aside0.mk ((by rw [hg]; exact (below_size zb0) : w.heap.size ≤ gb881)); clear HB; have HB := n0_; have BK881 := n1_; have GW881 := n2_; have GE881 := n3_; clear n0_ n1_ n2_ n3_; clear hb hbox hg) | ((with_reducible refine gate_dst (N := 3) rfl ?_); refine box_event ?hg (N := 3) ?hd (cs := #[.int .i64 a1_0, .int .i64 a1_1, .int .i64 a1_2, .slice A1_3 l1_3.length c1_3]) (t := 37) ?hr ?_; (case hd => rfl); (case hg => rfl); (case hr => first | (go_simp; done) | (go_simp; rfl)); intro gb882 hg w7 hbox hb; have n0_ := Aside0.mk (blk_below (g := gb881) (o := .cells #[.int .i64 a0_0, .int .i64 a0_1, .int .i64 a0_2, .slice A0_3 l0_3.length c0_3] 37 (0, 0)) (by (with_reducible repeat (first | refine bN_ ?_ _ | refine bD_ ?_ | refine bA_ ?_ _)); exact BK881.out) hb); have n1_ := Aside0.mk (below_step (by repeat (first | (with_reducible first | exact HB.out | apply below_alloc | apply pw_below_drewN | apply below_drew1 | refine below_set ?_ GE881.out) | exact HB.out)) hb); have n2_ := Aside0.mk (hbox); have n3_ := Aside0.mk ((by rw [hg]; exact (below_size (by repeat (first | (with_reducible first | exact HB.out | apply below_alloc | apply pw_below_drewN | apply below_drew1 | refine below_set ?_ GE881.out) | exact HB.out))) : w.heap.size ≤ gb882)); have n4_ := Aside0.mk ((by rw [hg]; exact (below_size (by repeat (first | (with_reducible first | exact HB.out | apply below_alloc | apply pw_below_drewN | apply below_drew1 | refine below_set ?_ GE881.out) | exact HB.out))) : w.heap.size ≤ gb882)); have n5_ := Aside0.mk ((by rw [hg]; exact Nat.ne_of_lt (blk_lt (g := gb881) (o := .cells #[.int .i64 a0_0, .int .i64 a0_1, .int .i64 a0_2, .slice A0_3 l0_3.length c0_3] 37 (0, 0)) (by (with_reducible repeat (first | refine bN_ ?_ _ | refine bD_ ?_ | refine bA_ ?_ _)); exact BK881.out)) : gb881 ≠ gb882)); have n6_ := Aside0.mk ((by rw [hg]; exact Nat.ne_of_gt (blk_lt (g := gb881) (o := .cells #[.int .i64 a0_0, .int .i64 a0_1, .int .i64 a0_2, .slice A0_3 l0_3.length c0_3] 37 (0, 0)) (by (with_reducible repeat (first | refine bN_ ?_ _ | refine bD_ ?_ | refine bA_ ?_ _)); exact BK881.out)) : gb882 ≠ gb881)); clear BK881; clear HB; have BK881 := n0_; have HB := n1_; have BK882 := n2_; have GW882 := n3_; have GE882 := n4_; have NB881_882 := n5_; have NB882_881 := n6_; clear n0_ n1_ n2_ n3_ n4_ n5_ n6_; clear hb hbox hg))
 have n0_ := Aside0.mk (blk_drew BK881.out)
 have n1_ := Aside0.mk (blk_drew BK882.out)
 have n2_ := Aside0.mk (below_drew1 HB.out)
 clear BK881
 clear BK882
 clear HB
 have BK881 := n0_
 have BK882 := n1_
 have HB := n2_
 clear n0_ n1_ n2_
 refine start_ (n := 17) (S := fun w' => w'.cell? ⟨gb881, 0, none⟩ = some (.int .i64 a0_0) ∧ w'.cell? ⟨gb881, 1, none⟩ = some (.int .i64 a0_1) ∧ w'.cell? ⟨gb881, 2, none⟩ = some (.int .i64 a0_2) ∧ w'.cell? ⟨gb881, 3, none⟩ = some (.slice A0_3 l0_3.length c0_3) ∧ w'.cell? ⟨gb882, 0, none⟩ = some (.int .i64 a1_0) ∧ w'.cell? ⟨gb882, 1, none⟩ = some (.int .i64 a1_1) ∧ w'.cell? ⟨gb882, 2, none⟩ = some (.int .i64 a1_2) ∧ w'.cell? ⟨gb882, 3, none⟩ = some (.slice A1_3 l1_3.length c1_3)) (ds := []) #[false, false, false, false, false, false, false, false, false, false, false, false, false, false, false, false, false] (by kernel_rfl) rfl rfl ⟨(blk_cell BK881.out 0).trans rfl, (blk_cell BK881.out 1).trans rfl, (blk_cell BK881.out 2).trans rfl, (blk_cell BK881.out 3).trans rfl, (blk_cell BK882.out 0).trans rfl, (blk_cell BK882.out 1).trans rfl, (blk_cell BK882.out 2).trans rfl, (blk_cell BK882.out 3).trans rfl⟩ (fun hHeld => ?_); refine with_tabW spec_CompareVersion.tab1 spec_CompareVersion.bits1 (fun HT_ HW_ => ?_)
 generalize w7.drew = w8 at BK881 BK882 HB hHeld ⊢
 refine pure_ (i := 0) (N := some 9) (v := ?_) (a' := ?_) #[true, false, false, false, false, false, false, false, false, false, false, false, false, false, false, false, false] rfl rfl (any_of HT_.out (by kernel_rfl)) (fun _ _ _ h => h) (Or.inl ⟨by rfl, ?_⟩) ?_ ?_
 rotate_left
 ·intro w'
  go_simp
  with_reducible rfl
 rotate_left
 ·simp only [Act.put, List.setIfInBounds_toArray, List.set_cons_zero, List.set_cons_succ, i64_w, i32_w]
  rfl
 refine pure_ (i := 2) (N := some 11) (v := ?_) (a' := ?_) #[true, false, true, false, false, false, false, false, false, false, false, false, false, false, false, false, false] rfl rfl (any_of HT_.out (by kernel_rfl)) (fun _ _ _ h => h) (Or.inl ⟨by rfl, ?_⟩) ?_ ?_
 rotate_left
 ·intro w'
  go_simp
  with_reducible rfl
 rotate_left
 ·simp only [Act.put, List.setIfInBounds_toArray, List.set_cons_zero, List.set_cons_succ, i64_w, i32_w]
  rfl
 refine pure_ (i := 5) (N := some 14) (v := ?_) (a' := ?_) #[true, false, true, false, false, true, false, false, false, false, false, false, false, false, false, false, false] rfl rfl (any_of HT_.out (by kernel_rfl)) (fun _ _ _ h => h) (Or.inl ⟨by rfl, ?_⟩) ?_ ?_
 rotate_left
 ·intro w'
  go_simp
  with_reducible rfl
 rotate_left
 ·simp only [Act.put, List.setIfInBounds_toArray, List.set_cons_zero, List.set_cons_succ, i64_w, i32_w]
  rfl
 refine pure_ (i := 7) (N := some 16) (v := ?_) (a' := ?_) #[true, false, true, false, false, true, false, true, false, false, false, false, false, false, false, false, false] rfl rfl (any_of HT_.out (by kernel_rfl)) (fun _ _ _ h => h) (Or.inl ⟨by rfl, ?_⟩) ?_ ?_
 rotate_left
 ·intro w'
  go_simp
  with_reducible rfl
 rotate_left
 ·simp only [Act.put, List.setIfInBounds_toArray, List.set_cons_zero, List.set_cons_succ, i64_w, i32_w]
  rfl
 refine pure_ (i := 10) (N := some 19) (v := ?_) (a' := ?_) #[true, false, true, false, false, true, false, true, false, false, true, false, false, false, false, false, false] rfl rfl (any_of HT_.out (by kernel_rfl)) (fun _ _ _ h => h) (Or.inl ⟨by rfl, ?_⟩) ?_ ?_
 rotate_left
 ·intro w'
  go_simp
  with_reducible rfl
 rotate_left
 ·simp only [Act.put, List.setIfInBounds_toArray, List.set_cons_zero, List.set_cons_succ, i64_w, i32_w]
  rfl
 refine pure_ (i := 12) (N := some 21) (v := ?_) (a' := ?_) #[true, false, true, false, false, true, false, true, false, false, true, false, true, false, false, false, false] rfl rfl (any_of HT_.out (by kernel_rfl)) (fun _ _ _ h => h) (Or.inl ⟨by rfl, ?_⟩) ?_ ?_
 rotate_left
 ·intro w'
  go_simp
  with_reducible rfl
 rotate_left
 ·simp only [Act.put, List.setIfInBounds_toArray, List.set_cons_zero, List.set_cons_succ, i64_w, i32_w]
  rfl
 refine take_ (i := 1) (N := some 10) (v := ?_) (a' := ?_) #[true, true, true, false, false, true, false, true, false, false, true, false, true, false, false, false, false] rfl rfl (take_ofW HT_.out HW_.out (by kernel_rfl)) (fun _ _ _ h => h) (Or.inl ⟨by rfl, ?_⟩) hHeld ?_ ?_
 rotate_left
 ·rintro w' ⟨s0, s1, s2, s3, s4, s5, s6, s7⟩
  go_simp
  with_reducible rfl
 rotate_left
 ·simp only [Act.put, List.setIfInBounds_toArray, List.set_cons_zero, List.set_cons_succ, i64_w, i32_w]
  rfl
 refine take_ (i := 3) (N := some 12) (v := ?_) (a' := ?_) #[true, true, true, true, false, true, false, true, false, false, true, false, true, false, false, false, false] rfl rfl (take_ofW HT_.out HW_.out (by kernel_rfl)) (fun _ _ _ h => h) (Or.inl ⟨by rfl, ?_⟩) hHeld ?_ ?_
 rotate_left
 ·rintro w' ⟨s0, s1, s2, s3, s4, s5, s6, s7⟩
  go_simp
  with_reducible rfl
 rotate_left
 ·simp only [Act.put, List.setIfInBounds_toArray, List.set_cons_zero, List.set_cons_succ, i64_w, i32_w]
  rfl
 refine take_ (i := 6) (N := some 15) (v := ?_) (a' := ?_) #[true, true, true, true, false, true, true, true, false, false, true, false, true, false, false, false, false] rfl rfl (take_ofW HT_.out HW_.out (by kernel_rfl)) (fun _ _ _ h => h) (Or.inl ⟨by rfl, ?_⟩) hHeld ?_ ?_
 rotate_left
 ·rintro w' ⟨s0, s1, s2, s3, s4, s5, s6, s7⟩
  go_simp
  with_reducible rfl
 rotate_left
 ·simp only [Act.put, List.setIfInBounds_toArray, List.set_cons_zero, List.set_cons_succ, i64_w, i32_w]
  rfl
 refine take_ (i := 8) (N := some 17) (v := ?_) (a' := ?_) #[true, true, true, true, false, true, true, true, true, false, true, false, true, false, false, false, false] rfl rfl (take_ofW HT_.out HW_.out (by kernel_rfl)) (fun _ _ _ h => h) (Or.inl ⟨by rfl, ?_⟩) hHeld ?_ ?_
 rotate_left
 ·rintro w' ⟨s0, s1, s2, s3, s4, s5, s6, s7⟩
  go_simp
  with_reducible rfl
 rotate_left
 ·simp only [Act.put, List.setIfInBounds_toArray, List.set_cons_zero, List.set_cons_succ, i64_w, i32_w]
  rfl
 refine take_ (i := 11) (N := some 20) (v := ?_) (a' := ?_) #[true, true, true, true, false, true, true, true, true, false, true, true, true, false, false, false, false] rfl rfl (take_ofW HT_.out HW_.out (by kernel_rfl)) (fun _ _ _ h => h) (Or.inl ⟨by rfl, ?_⟩) hHeld ?_ ?_
 rotate_left
 ·rintro w' ⟨s0, s1, s2, s3, s4, s5, s6, s7⟩
  go_simp
  with_reducible rfl
 rotate_left
 ·simp only [Act.put, List.setIfInBounds_toArray, List.set_cons_zero, List.set_cons_succ, i64_w, i32_w]
  rfl
 refine take_ (i := 13) (N := some 22) (v := ?_) (a' := ?_) #[true, true, true, true, false, true, true, true, true, false, true, true, true, true, false, false, false] rfl rfl (take_ofW HT_.out HW_.out (by kernel_rfl)) (fun _ _ _ h => h) (Or.inl ⟨by rfl, ?_⟩) hHeld ?_ ?_
 rotate_left
 ·rintro w' ⟨s0, s1, s2, s3, s4, s5, s6, s7⟩
  go_simp
  with_reducible rfl
 rotate_left
 ·simp only [Act.put, List.setIfInBounds_toArray, List.set_cons_zero, List.set_cons_succ, i64_w, i32_w]
  rfl
 refine one_ (i := 4) (N := some 13) #[true, true, true, true, true, true, true, true, true, false, true, true, true, true, false, false, false] rfl rfl (one_of HT_.out (by kernel_rfl)) (by decide) (fun K hK => ?_)
 refine goes_ Tryd.func184 (by kernel_rfl) rfl #[.int .i64 a0_0, .int .i64 a1_0] (by rfl) rfl rfl zb1 ?_
 with_reducible refine (spec_l02Less.calls a0_0 a1_0 t883 _ A3.out).mono ?_
 rintro e w' ⟨rfl, ⟨nd, rfl⟩⟩
 refine ⟨_, rfl, ?_⟩
 refine hK.out _ _ ⟨(blk_cell BK881.out 0).trans rfl, (blk_cell BK881.out 1).trans rfl, (blk_cell BK881.out 2).trans rfl, (blk_cell BK881.out 3).trans rfl, (blk_cell BK882.out 0).trans rfl, (blk_cell BK882.out 1).trans rfl, (blk_cell BK882.out 2).trans rfl, (blk_cell BK882.out 3).trans rfl⟩ (fun hHeld => ?_)
 clear hK K
 refine norm_ (a' := ?_) ?_ ?_
 rotate_left
 ·show Act.put _ (some 13) _ = _
  simp only [Act.put, List.setIfInBounds_toArray, List.set_cons_zero, List.set_cons_succ, i64_w, i32_w]
  rfl
 refine one_ (i := 9) (N := some 18) #[true, true, true, true, true, true, true, true, true, true, true, true, true, true, false, false, false] rfl rfl (one_of HT_.out (by kernel_rfl)) (by decide) (fun K hK => ?_)
 refine goes_ Tryd.func184 (by kernel_rfl) rfl #[.int .i64 a0_1, .int .i64 a1_1] (by rfl) rfl rfl zb1 ?_
 with_reducible refine (spec_l02Less.calls a0_1 a1_1 t884 _ A4.out).mono ?_
 rintro e w' ⟨rfl, ⟨nd, rfl⟩⟩
 refine ⟨_, rfl, ?_⟩
 refine hK.out _ _ ⟨(blk_cell BK881.out 0).trans rfl, (blk_cell BK881.out 1).trans rfl, (blk_cell BK881.out 2).trans rfl, (blk_cell BK881.out 3).trans rfl, (blk_cell BK882.out 0).trans rfl, (blk_cell BK882.out 1).trans rfl, (blk_cell BK882.out 2).trans rfl, (blk_cell BK882.out 3).trans rfl⟩ (fun hHeld => ?_)
 clear hK K
 refine norm_ (a' := ?_) ?_ ?_
 rotate_left
 ·show Act.put _ (some 18) _ = _
  simp only [Act.put, List.setIfInBounds_toArray, List.set_cons_zero, List.set_cons_succ, i64_w, i32_w]
  rfl
 refine one_ (i := 14) (N := some 23) #[true, true, true, true, true, true, true, true, true, true, true, true, true, true, true, false, false] rfl rfl (one_of HT_.out (by kernel_rfl)) (by decide) (fun K hK => ?_)
 refine goes_ Tryd.func184 (by kernel_rfl) rfl #[.int .i64 a0_2, .int .i64 a1_2] (by rfl) rfl rfl zb1 ?_
 with_reducible refine (spec_l02Less.calls a0_2 a1_2 t885 _ A5.out).mono ?_
 rintro e w' ⟨rfl, ⟨nd, rfl⟩⟩
 refine ⟨_, rfl, ?_⟩
 refine hK.out _ _ ⟨(blk_cell BK881.out 0).trans rfl, (blk_cell BK881.out 1).trans rfl, (blk_cell BK881.out 2).trans rfl, (blk_cell BK881.out 3).trans rfl, (blk_cell BK882.out 0).trans rfl, (blk_cell BK882.out 1).trans rfl, (blk_cell BK882.out 2).trans rfl, (blk_cell BK882.out 3).trans rfl⟩ (fun hHeld => ?_)
 clear hK K
 refine norm_ (a' := ?_) ?_ ?_
 rotate_left
 ·show Act.put _ (some 23) _ = _
  simp only [Act.put, List.setIfInBounds_toArray, List.set_cons_zero, List.set_cons_succ, i64_w, i32_w]
  rfl
 refine one_ (i := 15) (N := some 24) #[true, true, true, true, true, true, true, true, true, true, true, true, true, true, true, true, false] rfl rfl (one_of HT_.out (by kernel_rfl)) (by decide) (fun K hK => ?_)
 refine Kd.R_lit_step (Kd.int .i64) _ 3 ?hg (N := 24) ?hd (xs := ([t883, t884, t885] : List Int)) (inner := [.int .i64 t883, .int .i64 t884, .int .i64 t885]) (ok := fun _ => True) (okp := fun _ => True) ?hr ?hp (fun _ hk => hk) trivial (Below.refl _ _) (Nat.le_refl _) (by simp) ?_; (case hd => rfl); (case hg => rfl); (case hr => first | (go_simp; done) | (go_simp; rfl)); (case hp => exact (Reps.one (show Kd.M (Kd.int .i64) _ _ _ t883 [.int .i64 t883] from rfl) (Reps.one (show Kd.M (Kd.int .i64) _ _ _ t884 [.int .i64 t884] from rfl) (Reps.one (show Kd.M (Kd.int .i64) _ _ _ t885 [.int .i64 t885] from rfl) (Reps.none _ _)))))
 intro v887 w9 ho10 hb hg_ hnew_
 clear hg_ hnew_
 (first | rw [← Ny886.out] at ho10 | (simp only [Int.reduceToNat] at ho10; rw [← Ny886.out] at ho10))
 have n0_ := Aside0.mk (Kd.R_lower ho10 (below_size (by repeat (first | (with_reducible first | exact HB.out | apply below_alloc | apply pw_below_drewN | apply below_drew1 | refine below_set ?_ GE881.out | refine below_set ?_ GE882.out) | exact HB.out))))
 have n1_ := Aside0.mk (blk_below (g := gb881) (o := .cells #[.int .i64 a0_0, .int .i64 a0_1, .int .i64 a0_2, .slice A0_3 l0_3.length c0_3] 37 (0, 0)) (by (with_reducible repeat (first | refine bN_ ?_ _ | refine bD_ ?_ | refine bA_ ?_ _)); exact BK881.out) hb)
 have n2_ := Aside0.mk (blk_below (g := gb882) (o := .cells #[.int .i64 a1_0, .int .i64 a1_1, .int .i64 a1_2, .slice A1_3 l1_3.length c1_3] 37 (0, 0)) (by (with_reducible repeat (first | refine bN_ ?_ _ | refine bD_ ?_ | refine bA_ ?_ _)); exact BK882.out) hb)
 have n3_ := Aside0.mk (below_step (by repeat (first | (with_reducible first | exact HB.out | apply below_alloc | apply pw_below_drewN | apply below_drew1 | refine below_set ?_ GE881.out | refine below_set ?_ GE882.out) | exact HB.out)) hb)
 clear BK881
 clear BK882
 clear HB
 have HO888 := n0_
 have BK881 := n1_
 have BK882 := n2_
 have HB := n3_
 clear n0_ n1_ n2_ n3_
 clear hb ho10
 refine hK.out _ _ ⟨(blk_cell BK881.out 0).trans rfl, (blk_cell BK881.out 1).trans rfl, (blk_cell BK881.out 2).trans rfl, (blk_cell BK881.out 3).trans rfl, (blk_cell BK882.out 0).trans rfl, (blk_cell BK882.out 1).trans rfl, (blk_cell BK882.out 2).trans rfl, (blk_cell BK882.out 3).trans rfl⟩ (fun hHeld => ?_)
 clear hK K
 refine norm_ (a' := ?_) ?_ ?_
 rotate_left
 ·show Act.put _ (some 24) _ = _
  simp only [Act.put, List.setIfInBounds_toArray, List.set_cons_zero, List.set_cons_succ, i64_w, i32_w]
  rfl
 refine pure_ (i := 16) (N := some 5) (v := ?_) (a' := ?_) #[true, true, true, true, true, true, true, true, true, true, true, true, true, true, true, true, true] rfl rfl (any_of HT_.out (by kernel_rfl)) (fun _ _ _ h => h) (Or.inl ⟨by rfl, ?_⟩) ?_ ?_
 rotate_left
 ·intro w'
  go_simp
  with_reducible rfl
 rotate_left
 ·simp only [Act.put, List.setIfInBounds_toArray, List.set_cons_zero, List.set_cons_succ, i64_w, i32_w]
  rfl
 refine done_ (done_of HT_.out (by kernel_rfl)) ?_
 try go_wp2
 go_loopg [6] k (fun kq v6 w' => ∃ (x6_1 : Int), v6 = .int .i64 x6_1 ∧ Aside0 (spec_CompareVersion.l0 kq y886 x6_1 a0_0 a0_1 a0_2 l0_3 a1_0 a1_1 a1_2 l1_3 = some r) ∧ Aside0 (kq ≤ k) ∧ Aside0 (Kd.R (Kd.int .i64) 3 w' w.heap.size (fun _ => True) v887 y886) ∧ Aside0 (w'.heap[gb881]? = some (.cells #[.int .i64 a0_0, .int .i64 a0_1, .int .i64 a0_2, (.slice A0_3 l0_3.length c0_3)] 37 (0, 0))) ∧ Aside0 (w'.heap[gb882]? = some (.cells #[.int .i64 a1_0, .int .i64 a1_1, .int .i64 a1_2, (.slice A1_3 l1_3.length c1_3)] 37 (0, 0))) ∧ Aside0 (Below w.heap.size w w'))
 case atStart => exact ⟨(0), zb5, H', ⟨Nat.le_refl _⟩, ⟨by (with_reducible repeat (first | apply Kd.R_alloc | apply Kd.R_drewN | apply Kd.R_drew)); exact HO888.out⟩, ⟨by (with_reducible repeat (first | refine bN_ ?_ _ | refine bD_ ?_ | refine bA_ ?_ _)); exact BK881.out⟩, ⟨by (with_reducible repeat (first | refine bN_ ?_ _ | refine bD_ ?_ | refine bA_ ?_ _)); exact BK882.out⟩, ⟨by repeat (first | (with_reducible first | exact HB.out | apply below_alloc | apply pw_below_drewN | apply below_drew1 | refine below_set ?_ GE881.out | refine below_set ?_ GE882.out) | exact HB.out)⟩⟩
 case round =>
  clear H'
  try clear c1
  try clear p2
  obtain ⟨x6_1, rfl, HA, HK1, HO_5, BK881, BK882, HB⟩ := hrel
  cases gk with
  | zero => exact absurd HA.out (by simp [spec_CompareVersion.l0])
  | succ k1 =>
   have H := HA.out
   clear HA
   simp only [spec_CompareVersion.l0] at H
   by_cases c11 : x6_1 < 3
   ·rw [if_pos c11] at H
    have c11b0 : decide (x6_1 < 3) = true := decide_eq_true c11
    clear c11
    by_cases c12 : 0 ≤ x6_1
    ·rw [if_pos c12] at H
     have c12b0 : decide (0 ≤ x6_1) = true := decide_eq_true c12
     clear c12
     by_cases c13 : x6_1 < (y886.length : Int)
     ·rw [if_pos c13] at H
      have c13b0 : decide (x6_1 < (y886.length : Int)) = true := decide_eq_true c13
      clear c13
      by_cases c14 : (rd y886 x6_1) = 0
      ·rw [if_pos c14] at H
       have c14b0 : ((rd y886 x6_1) == 0) = true := beq_iff_eq.mpr c14
       have c14b1 : ((rd y886 x6_1) != 0) = false := bne_eq_false_iff_eq.mpr c14
       clear c14
       have H' := Aside0.mk H
       clear H
       obtain ⟨Ao15, co15, eo15⟩ := Kd.R_slice HO_5.out
       subst eo15
       have p889 : 0 ≤ (x6_1 : Int) := of_decide_eq_true zb4
       have q889 : x6_1 < (y886.length : Int) := of_decide_eq_true zb4
       obtain ⟨ad889, e889, hx889_0⟩ := Kd.at_int (Kd.R_reads' HO_5.out).2.2 x6_1 p889 q889
       cases e889
       replace p889 := eq_true p889
       replace q889 := eq_true q889
       go_wp2
       go_roundg k1
       case measure => have := HK1.out; omega
       case rel => exact ⟨(wrap64 (x6_1 + 1)), zb5, H', ⟨by have := HK1.out; omega⟩, ⟨by (with_reducible repeat (first | apply Kd.R_alloc | apply Kd.R_drewN | apply Kd.R_drew)); exact HO_5.out⟩, ⟨by (with_reducible repeat (first | refine bN_ ?_ _ | refine bD_ ?_ | refine bA_ ?_ _)); exact BK881.out⟩, ⟨by (with_reducible repeat (first | refine bN_ ?_ _ | refine bD_ ?_ | refine bA_ ?_ _)); exact BK882.out⟩, ⟨by repeat (first | (with_reducible first | exact HB.out | apply below_alloc | apply pw_below_drewN | apply below_drew1 | refine below_set ?_ GE881.out | refine below_set ?_ GE882.out) | exact HB.out)⟩⟩
      ·rw [if_neg c14] at H
       have c14b0 : ((rd y886 x6_1) == 0) = false := beq_eq_false_iff_ne.mpr c14
       have c14b1 : ((rd y886 x6_1) != 0) = true := bne_iff_ne.mpr c14
       obtain rfl := Option.some.inj H
       obtain ⟨Ao16, co16, eo16⟩ := Kd.R_slice HO_5.out
       subst eo16
       have p889 : 0 ≤ (x6_1 : Int) := of_decide_eq_true zb4
       have q889 : x6_1 < (y886.length : Int) := of_decide_eq_true zb4
       obtain ⟨ad889, e889, hx889_0⟩ := Kd.at_int (Kd.R_reads' HO_5.out).2.2 x6_1 p889 q889
       cases e889
       replace p889 := eq_true p889
       replace q889 := eq_true q889
       have p890 : 0 ≤ (x6_1 : Int) := of_decide_eq_true zb4
       have q890 : x6_1 < (y886.length : Int) := of_decide_eq_true zb4
       obtain ⟨ad890, e890, hx890_0⟩ := Kd.at_int (Kd.R_reads' HO_5.out).2.2 x6_1 p890 q890
       obtain rfl : ad889 = ad890 := (by injection e890)
       replace p890 := eq_true p890
       replace q890 := eq_true q890
       go_wp2
       go_ret
       exact ⟨zb3, by repeat (first | (with_reducible first | exact HB.out | apply below_alloc | apply pw_below_drewN | apply below_drew1 | refine below_set ?_ GE881.out | refine below_set ?_ GE882.out) | exact HB.out)⟩
     ·rw [if_neg c13] at H
      exact absurd H (by simp)
    ·rw [if_neg c12] at H
     exact absurd H (by simp)
   ·rw [if_neg c11] at H
    have c11b0 : decide (x6_1 < 3) = false := decide_eq_false c11
    clear c11
    have HC17 := Aside0.mk H
    clear H
    go_upto_region 7 with (fail)
    go_cut [47] (fun v47 wc => ∃ (kq : Nat) (x47_16 : Bool), v47 = .bool x47_16 ∧ Aside0 (spec_CompareVersion.j1 kq x47_16 a0_0 a0_1 a0_2 l0_3 a1_0 a1_1 a1_2 l1_3 = some r) ∧ Aside0 (kq ≤ k1) ∧ Aside0 (wc.heap[gb881]? = some (.cells #[.int .i64 a0_0, .int .i64 a0_1, .int .i64 a0_2, (.slice A0_3 l0_3.length c0_3)] 37 (0, 0))) ∧ Aside0 (wc.heap[gb882]? = some (.cells #[.int .i64 a1_0, .int .i64 a1_1, .int .i64 a1_2, (.slice A1_3 l1_3.length c1_3)] 37 (0, 0))) ∧ Aside0 (Below w.heap.size w wc))
    case first =>
     have H := HC17.out
     clear HC17
     by_cases c18 : (l0_3.length : Int) = 0
     ·rw [if_pos c18] at H
      have c18b0 : ((l0_3.length : Int) == 0) = true := beq_iff_eq.mpr c18
      have c18b1 : ((l0_3.length : Int) != 0) = false := bne_eq_false_iff_eq.mpr c18
      clear c18
      (first | rw [c18b0] | (simp only [i64_w, i32_w]; rw [c18b0]) | skip)
      have H' := Aside0.mk H
      clear H
      have hnb19 := NB881_882.out
      have hnc19 := NB882_881.out
      have hcz20_0 : wr.cell? ⟨gb881, 0, none⟩ = some (.int .i64 a0_0) := (blk_cell BK881.out 0).trans rfl
      have hcz20_1 : wr.cell? ⟨gb881, 1, none⟩ = some (.int .i64 a0_1) := (blk_cell BK881.out 1).trans rfl
      have hcz20_2 : wr.cell? ⟨gb881, 2, none⟩ = some (.int .i64 a0_2) := (blk_cell BK881.out 2).trans rfl
      have hcz20_3 : wr.cell? ⟨gb881, 3, none⟩ = some (.slice A0_3 l0_3.length c0_3) := (blk_cell BK881.out 3).trans rfl
      have hfz20_0 := blk_frozen BK881.out 0
      have hfz20_1 := blk_frozen BK881.out 1
      have hfz20_2 := blk_frozen BK881.out 2
      have hfz20_3 := blk_frozen BK881.out 3
      go_wp2
      go_meet
      case rel => exact ⟨_, (true), zb5, H', ⟨by have := HK1.out; first | omega | exact Nat.le_refl _⟩, ⟨by (with_reducible repeat (first | refine bN_ ?_ _ | refine bD_ ?_ | refine bA_ ?_ _)); exact BK881.out⟩, ⟨by (with_reducible repeat (first | refine bN_ ?_ _ | refine bD_ ?_ | refine bA_ ?_ _)); exact BK882.out⟩, ⟨by repeat (first | (with_reducible first | exact HB.out | apply below_alloc | apply pw_below_drewN | apply below_drew1 | refine below_set ?_ GE881.out | refine below_set ?_ GE882.out) | exact HB.out)⟩⟩
     ·rw [if_neg c18] at H
      have c18b0 : ((l0_3.length : Int) == 0) = false := beq_eq_false_iff_ne.mpr c18
      have c18b1 : ((l0_3.length : Int) != 0) = true := bne_iff_ne.mpr c18
      have c18b2 : ¬ (l0_3 = []) := fun h_ => c18 (by rw [h_]; rfl)
      (first | rw [c18b0] | (simp only [i64_w, i32_w]; rw [c18b0]) | skip)
      have H' := Aside0.mk H
      clear H
      have hnb21 := NB881_882.out
      have hnc21 := NB882_881.out
      have hcz22_0 : wr.cell? ⟨gb881, 0, none⟩ = some (.int .i64 a0_0) := (blk_cell BK881.out 0).trans rfl
      have hcz22_1 : wr.cell? ⟨gb881, 1, none⟩ = some (.int .i64 a0_1) := (blk_cell BK881.out 1).trans rfl
      have hcz22_2 : wr.cell? ⟨gb881, 2, none⟩ = some (.int .i64 a0_2) := (blk_cell BK881.out 2).trans rfl
      have hcz22_3 : wr.cell? ⟨gb881, 3, none⟩ = some (.slice A0_3 l0_3.length c0_3) := (blk_cell BK881.out 3).trans rfl
      have hfz22_0 := blk_frozen BK881.out 0
      have hfz22_1 := blk_frozen BK881.out 1
      have hfz22_2 := blk_frozen BK881.out 2
      have hfz22_3 := blk_frozen BK881.out 3
      have hcz23_0 : wr.cell? ⟨gb882, 0, none⟩ = some (.int .i64 a1_0) := (blk_cell BK882.out 0).trans rfl
      have hcz23_1 : wr.cell? ⟨gb882, 1, none⟩ = some (.int .i64 a1_1) := (blk_cell BK882.out 1).trans rfl
      have hcz23_2 : wr.cell? ⟨gb882, 2, none⟩ = some (.int .i64 a1_2) := (blk_cell BK882.out 2).trans rfl
      have hcz23_3 : wr.cell? ⟨gb882, 3, none⟩ = some (.slice A1_3 l1_3.length c1_3) := (blk_cell BK882.out 3).trans rfl
      have hfz23_0 := blk_frozen BK882.out 0
      have hfz23_1 := blk_frozen BK882.out 1
      have hfz23_2 := blk_frozen BK882.out 2
      have hfz23_3 := blk_frozen BK882.out 3
      go_wp2
      go_meet
      case rel => exact ⟨_, (((l1_3.length : Int) == 0)), zb5, H', ⟨by have := HK1.out; first | omega | exact Nat.le_refl _⟩, ⟨by (with_reducible repeat (first | refine bN_ ?_ _ | refine bD_ ?_ | refine bA_ ?_ _)); exact BK881.out⟩, ⟨by (with_reducible repeat (first | refine bN_ ?_ _ | refine bD_ ?_ | refine bA_ ?_ _)); exact BK882.out⟩, ⟨by repeat (first | (with_reducible first | exact HB.out | apply below_alloc | apply pw_below_drewN | apply below_drew1 | refine below_set ?_ GE881.out | refine below_set ?_ GE882.out) | exact HB.out)⟩⟩
    case rest =>
     clear HC17
     try clear c1
     try clear c2
     try clear p2
     try clear p6
     try clear p8
     try clear q8
     try clear hx8
     try clear c11
     try clear c11b0
     try clear c12
     try clear c12b0
     try clear c13
     try clear c13b0
     try clear c14
     try clear c14b0
     try clear c14b1
     try clear c16
     try clear c18
     try clear c18b0
     try clear c18b1
     try clear c18b2
     try clear c19
     try clear c21
     try clear hcz20_0
     try clear hcz20_1
     try clear hcz20_2
     try clear hcz20_3
     try clear hcz22_0
     try clear hcz22_1
     try clear hcz22_2
     try clear hcz22_3
     try clear hcz23_0
     try clear hcz23_1
     try clear hcz23_2
     try clear hcz23_3
     try clear hfz20_0
     try clear hfz20_1
     try clear hfz20_2
     try clear hfz20_3
     try clear hfz22_0
     try clear hfz22_1
     try clear hfz22_2
     try clear hfz22_3
     try clear hfz23_0
     try clear hfz23_1
     try clear hfz23_2
     try clear hfz23_3
     try clear hx889_0
     try clear hx890_0
     try clear p2
     try clear p889
     try clear p890
     try clear q889
     try clear q890
     obtain ⟨kq, x47_16, rfl, HA, HJ16, BK881, BK882, HB⟩ := hcut
     cases kq with
     | zero => exact absurd HA.out (by simp [spec_CompareVersion.j1])
     | succ kj16 =>
      have H := HA.out
      clear HA
      simp only [spec_CompareVersion.j1] at H
      by_cases c24 : x47_16 = true
      ·subst c24
       have H1 : ((spec_l02Less.f (l1_3.length : Int) (l0_3.length : Int)).bind fun t891 => (some t891)) = some r := by rw [if_pos rfl] at H; exact H
       clear H
       have H := H1
       clear H1
       replace H := Option.bind_eq_some_iff.mp H
       obtain ⟨t891, A250, H⟩ := H
       replace H : (some t891) = some r := H
       have A25 := Aside0.mk A250
       clear A250
       obtain rfl := Option.some.inj H
       have hnb26 := NB882_881.out
       have hnc26 := NB881_882.out
       have hcz27_0 : wc.cell? ⟨gb882, 0, none⟩ = some (.int .i64 a1_0) := (blk_cell BK882.out 0).trans rfl
       have hcz27_1 : wc.cell? ⟨gb882, 1, none⟩ = some (.int .i64 a1_1) := (blk_cell BK882.out 1).trans rfl
       have hcz27_2 : wc.cell? ⟨gb882, 2, none⟩ = some (.int .i64 a1_2) := (blk_cell BK882.out 2).trans rfl
       have hcz27_3 : wc.cell? ⟨gb882, 3, none⟩ = some (.slice A1_3 l1_3.length c1_3) := (blk_cell BK882.out 3).trans rfl
       have hfz27_0 := blk_frozen BK882.out 0
       have hfz27_1 := blk_frozen BK882.out 1
       have hfz27_2 := blk_frozen BK882.out 2
       have hfz27_3 := blk_frozen BK882.out 3
       have hcz28_0 : wc.cell? ⟨gb881, 0, none⟩ = some (.int .i64 a0_0) := (blk_cell BK881.out 0).trans rfl
       have hcz28_1 : wc.cell? ⟨gb881, 1, none⟩ = some (.int .i64 a0_1) := (blk_cell BK881.out 1).trans rfl
       have hcz28_2 : wc.cell? ⟨gb881, 2, none⟩ = some (.int .i64 a0_2) := (blk_cell BK881.out 2).trans rfl
       have hcz28_3 : wc.cell? ⟨gb881, 3, none⟩ = some (.slice A0_3 l0_3.length c0_3) := (blk_cell BK881.out 3).trans rfl
       have hfz28_0 := blk_frozen BK881.out 0
       have hfz28_1 := blk_frozen BK881.out 1
       have hfz28_2 := blk_frozen BK881.out 2
       have hfz28_3 := blk_frozen BK881.out 3
       go_wp2_with (first | ((with_reducible refine gate_callee (f := 184) rfl ?_); refine goesL_ (some 54) rfl rfl Tryd.func184 (by kernel_rfl) rfl #[.int .i64 (l1_3.length : Int), .int .i64 (l0_3.length : Int)] rfl zb1 ?_; (with_reducible refine (spec_l02Less.calls (l1_3.length : Int) (l0_3.length : Int) t891 _ A25.out).mono ?_); rintro e w' ⟨rfl, ⟨nd, rfl⟩⟩; refine ⟨_, rfl, ?_⟩))
       go_ret
       exact ⟨zb3, by repeat (first | (with_reducible first | exact HB.out | apply below_alloc | apply pw_below_drewN | apply below_drew1 | refine below_set ?_ GE881.out | refine below_set ?_ GE882.out) | exact HB.out)⟩
      ·replace c24 := Bool.eq_false_iff.mpr c24
       subst c24
       have H1 : (spec_CompareVersion.l1 kj16 0 a0_0 a0_1 a0_2 l0_3 a1_0 a1_1 a1_2 l1_3) = some r := by rw [if_neg (show ¬ (false = true) by decide)] at H; exact H
       clear H
       have H := H1
       clear H1
       have H' := Aside0.mk H
       clear H
       go_wp2
       go_loopg [7] kj16 (fun kq v7 w' => ∃ (x7_3 : Int), v7 = .int .i64 x7_3 ∧ Aside0 (spec_CompareVersion.l1 kq x7_3 a0_0 a0_1 a0_2 l0_3 a1_0 a1_1 a1_2 l1_3 = some r) ∧ Aside0 (kq ≤ kj16) ∧ Aside0 (w'.heap[gb881]? = some (.cells #[.int .i64 a0_0, .int .i64 a0_1, .int .i64 a0_2, (.slice A0_3 l0_3.length c0_3)] 37 (0, 0))) ∧ Aside0 (w'.heap[gb882]? = some (.cells #[.int .i64 a1_0, .int .i64 a1_1, .int .i64 a1_2, (.slice A1_3 l1_3.length c1_3)] 37 (0, 0))) ∧ Aside0 (Below w.heap.size w w'))
       case atStart => exact ⟨(0), zb5, H', ⟨Nat.le_refl _⟩, ⟨by (with_reducible repeat (first | refine bN_ ?_ _ | refine bD_ ?_ | refine bA_ ?_ _)); exact BK881.out⟩, ⟨by (with_reducible repeat (first | refine bN_ ?_ _ | refine bD_ ?_ | refine bA_ ?_ _)); exact BK882.out⟩, ⟨by repeat (first | (with_reducible first | exact HB.out | apply below_alloc | apply pw_below_drewN | apply below_drew1 | refine below_set ?_ GE881.out | refine below_set ?_ GE882.out) | exact HB.out)⟩⟩
       case round =>
        clear H'
        try clear c1
        try clear c2
        try clear p2
        try clear p6
        try clear p8
        try clear q8
        try clear hx8
        try clear c11
        try clear c11b0
        try clear c12
        try clear c12b0
        try clear c13
        try clear c13b0
        try clear c14
        try clear c14b0
        try clear c14b1
        try clear c16
        try clear c18
        try clear c18b0
        try clear c18b1
        try clear c18b2
        try clear c19
        try clear c21
        try clear c24
        try clear c26
        try clear hcz20_0
        try clear hcz20_1
        try clear hcz20_2
        try clear hcz20_3
        try clear hcz22_0
        try clear hcz22_1
        try clear hcz22_2
        try clear hcz22_3
        try clear hcz23_0
        try clear hcz23_1
        try clear hcz23_2
        try clear hcz23_3
        try clear hcz27_0
        try clear hcz27_1
        try clear hcz27_2
        try clear hcz27_3
        try clear hcz28_0
        try clear hcz28_1
        try clear hcz28_2
        try clear hcz28_3
        try clear hfz20_0
        try clear hfz20_1
        try clear hfz20_2
        try clear hfz20_3
        try clear hfz22_0
        try clear hfz22_1
        try clear hfz22_2
        try clear hfz22_3
        try clear hfz23_0
        try clear hfz23_1
        try clear hfz23_2
        try clear hfz23_3
        try clear hfz27_0
        try clear hfz27_1
        try clear hfz27_2
        try clear hfz27_3
        try clear hfz28_0
        try clear hfz28_1
        try clear hfz28_2
        try clear hfz28_3
        try clear hx889_0
        try clear hx890_0
        try clear p2
        try clear p6
        try clear p8
        try clear p889
        try clear p890
        try clear q8
        try clear q889
        try clear q890
        obtain ⟨x7_3, rfl, HA, HK3, BK881, BK882, HB⟩ := hrel
        cases gk with
        | zero => exact absurd HA.out (by simp [spec_CompareVersion.l1])
        | succ k3 =>
         have H := HA.out
         clear HA
         simp only [spec_CompareVersion.l1] at H
         have HC29 := Aside0.mk H
         clear H
         go_upto_region 10 with (fail)
         go_cut [66] (fun v66 wc => ∃ (kq : Nat) (x66_28 : Bool), v66 = .bool x66_28 ∧ Aside0 (spec_CompareVersion.j3 kq x7_3 x66_28 a0_0 a0_1 a0_2 l0_3 a1_0 a1_1 a1_2 l1_3 = some r) ∧ Aside0 (kq ≤ k3) ∧ Aside0 (wc.heap[gb881]? = some (.cells #[.int .i64 a0_0, .int .i64 a0_1, .int .i64 a0_2, (.slice A0_3 l0_3.length c0_3)] 37 (0, 0))) ∧ Aside0 (wc.heap[gb882]? = some (.cells #[.int .i64 a1_0, .int .i64 a1_1, .int .i64 a1_2, (.slice A1_3 l1_3.length c1_3)] 37 (0, 0))) ∧ Aside0 (Below w.heap.size w wc))
         case first =>
          have H := HC29.out
          clear HC29
          by_cases c30 : x7_3 < (l0_3.length : Int)
          ·rw [if_pos c30] at H
           have c30b0 : decide (x7_3 < (l0_3.length : Int)) = true := decide_eq_true c30
           clear c30
           (first | rw [c30b0] | (simp only [i64_w, i32_w]; rw [c30b0]) | skip)
           have H' := Aside0.mk H
           clear H
           have hnb31 := NB881_882.out
           have hnc31 := NB882_881.out
           have hcz32_0 : wr.cell? ⟨gb881, 0, none⟩ = some (.int .i64 a0_0) := (blk_cell BK881.out 0).trans rfl
           have hcz32_1 : wr.cell? ⟨gb881, 1, none⟩ = some (.int .i64 a0_1) := (blk_cell BK881.out 1).trans rfl
           have hcz32_2 : wr.cell? ⟨gb881, 2, none⟩ = some (.int .i64 a0_2) := (blk_cell BK881.out 2).trans rfl
           have hcz32_3 : wr.cell? ⟨gb881, 3, none⟩ = some (.slice A0_3 l0_3.length c0_3) := (blk_cell BK881.out 3).trans rfl
           have hfz32_0 := blk_frozen BK881.out 0
           have hfz32_1 := blk_frozen BK881.out 1
           have hfz32_2 := blk_frozen BK881.out 2
           have hfz32_3 := blk_frozen BK881.out 3
           have hcz33_0 : wr.cell? ⟨gb882, 0, none⟩ = some (.int .i64 a1_0) := (blk_cell BK882.out 0).trans rfl
           have hcz33_1 : wr.cell? ⟨gb882, 1, none⟩ = some (.int .i64 a1_1) := (blk_cell BK882.out 1).trans rfl
           have hcz33_2 : wr.cell? ⟨gb882, 2, none⟩ = some (.int .i64 a1_2) := (blk_cell BK882.out 2).trans rfl
           have hcz33_3 : wr.cell? ⟨gb882, 3, none⟩ = some (.slice A1_3 l1_3.length c1_3) := (blk_cell BK882.out 3).trans rfl
           have hfz33_0 := blk_frozen BK882.out 0
           have hfz33_1 := blk_frozen BK882.out 1
           have hfz33_2 := blk_frozen BK882.out 2
           have hfz33_3 := blk_frozen BK882.out 3
           go_wp2
           go_meet
           case rel => exact ⟨_, (decide (x7_3 < (l1_3.length : Int))), zb5, H', ⟨by have := HK1.out; have := HJ16.out; have := HK3.out; first | omega | exact Nat.le_refl _⟩, ⟨by (with_reducible repeat (first | refine bN_ ?_ _ | refine bD_ ?_ | refine bA_ ?_ _)); exact BK881.out⟩, ⟨by (with_reducible repeat (first | refine bN_ ?_ _ | refine bD_ ?_ | refine bA_ ?_ _)); exact BK882.out⟩, ⟨by repeat (first | (with_reducible first | exact HB.out | apply below_alloc | apply pw_below_drewN | apply below_drew1 | refine below_set ?_ GE881.out | refine below_set ?_ GE882.out) | exact HB.out)⟩⟩
          ·rw [if_neg c30] at H
           have c30b0 : decide (x7_3 < (l0_3.length : Int)) = false := decide_eq_false c30
           clear c30
           (first | rw [c30b0] | (simp only [i64_w, i32_w]; rw [c30b0]) | skip)
           have H' := Aside0.mk H
           clear H
           have hnb34 := NB881_882.out
           have hnc34 := NB882_881.out
           have hcz35_0 : wr.cell? ⟨gb881, 0, none⟩ = some (.int .i64 a0_0) := (blk_cell BK881.out 0).trans rfl
           have hcz35_1 : wr.cell? ⟨gb881, 1, none⟩ = some (.int .i64 a0_1) := (blk_cell BK881.out 1).trans rfl
           have hcz35_2 : wr.cell? ⟨gb881, 2, none⟩ = some (.int .i64 a0_2) := (blk_cell BK881.out 2).trans rfl
           have hcz35_3 : wr.cell? ⟨gb881, 3, none⟩ = some (.slice A0_3 l0_3.length c0_3) := (blk_cell BK881.out 3).trans rfl
           have hfz35_0 := blk_frozen BK881.out 0
           have hfz35_1 := blk_frozen BK881.out 1
           have hfz35_2 := blk_frozen BK881.out 2
           have hfz35_3 := blk_frozen BK881.out 3
           go_wp2
           go_meet
           case rel => exact ⟨_, (false), zb5, H', ⟨by have := HK1.out; have := HJ16.out; have := HK3.out; first | omega | exact Nat.le_refl _⟩, ⟨by (with_reducible repeat (first | refine bN_ ?_ _ | refine bD_ ?_ | refine bA_ ?_ _)); exact BK881.out⟩, ⟨by (with_reducible repeat (first | refine bN_ ?_ _ | refine bD_ ?_ | refine bA_ ?_ _)); exact BK882.out⟩, ⟨by repeat (first | (with_reducible first | exact HB.out | apply below_alloc | apply pw_below_drewN | apply below_drew1 | refine below_set ?_ GE881.out | refine below_set ?_ GE882.out) | exact HB.out)⟩⟩
         case rest =>
          clear HC29
          try clear c1
          try clear c2
          try clear p2
          try clear c3
          try clear p6
          try clear p8
          try clear q8
          try clear hx8
          try clear c11
          try clear c11b0
          try clear c12
          try clear c12b0
          try clear c13
          try clear c13b0
          try clear c14
          try clear c14b0
          try clear c14b1
          try clear c16
          try clear c18
          try clear c18b0
          try clear c18b1
          try clear c18b2
          try clear c19
          try clear c21
          try clear c24
          try clear c26
          try clear c30
          try clear c30b0
          try clear c31
          try clear c34
          try clear hcz20_0
          try clear hcz20_1
          try clear hcz20_2
          try clear hcz20_3
          try clear hcz22_0
          try clear hcz22_1
          try clear hcz22_2
          try clear hcz22_3
          try clear hcz23_0
          try clear hcz23_1
          try clear hcz23_2
          try clear hcz23_3
          try clear hcz27_0
          try clear hcz27_1
          try clear hcz27_2
          try clear hcz27_3
          try clear hcz28_0
          try clear hcz28_1
          try clear hcz28_2
          try clear hcz28_3
          try clear hcz32_0
          try clear hcz32_1
          try clear hcz32_2
          try clear hcz32_3
          try clear hcz33_0
          try clear hcz33_1
          try clear hcz33_2
          try clear hcz33_3
          try clear hcz35_0
          try clear hcz35_1
          try clear hcz35_2
          try clear hcz35_3
          try clear hfz20_0
          try clear hfz20_1
          try clear hfz20_2
          try clear hfz20_3
          try clear hfz22_0
          try clear hfz22_1
          try clear hfz22_2
          try clear hfz22_3
          try clear hfz23_0
          try clear hfz23_1
          try clear hfz23_2
          try clear hfz23_3
          try clear hfz27_0
          try clear hfz27_1
          try clear hfz27_2
          try clear hfz27_3
          try clear hfz28_0
          try clear hfz28_1
          try clear hfz28_2
          try clear hfz28_3
          try clear hfz32_0
          try clear hfz32_1
          try clear hfz32_2
          try clear hfz32_3
          try clear hfz33_0
          try clear hfz33_1
          try clear hfz33_2
          try clear hfz33_3
          try clear hfz35_0
          try clear hfz35_1
          try clear hfz35_2
          try clear hfz35_3
          try clear hx889_0
          try clear hx890_0
          try clear p2
          try clear p6
          try clear p8
          try clear p889
          try clear p890
          try clear q8
          try clear q889
          try clear q890
          obtain ⟨kq, x66_28, rfl, HA, HJ28, BK881, BK882, HB⟩ := hcut
          cases kq with
          | zero => exact absurd HA.out (by simp [spec_CompareVersion.j3])
          | succ kj28 =>
           have H := HA.out
           clear HA
           simp only [spec_CompareVersion.j3] at H
           by_cases c36 : x66_28 = true
           ·subst c36
            have H1 : (if 0 ≤ x7_3 then (if x7_3 < (l0_3.length : Int) then (if x7_3 < (l1_3.length : Int) then ((spec_l02Part.f kj28 (rdOf ByteArray.empty l0_3 x7_3) (rdOf ByteArray.empty l1_3 x7_3)).bind fun t894 => (if t894 = 0 then (spec_CompareVersion.l1 kj28 (wrap64 (x7_3 + 1)) a0_0 a0_1 a0_2 l0_3 a1_0 a1_1 a1_2 l1_3) else (some t894))) else (none)) else (none)) else (none)) = some r := by rw [if_pos rfl] at H; exact H
            clear H
            have H := H1
            clear H1
            by_cases c37 : 0 ≤ x7_3
            ·rw [if_pos c37] at H
             have c37b0 : decide (0 ≤ x7_3) = true := decide_eq_true c37
             clear c37
             by_cases c38 : x7_3 < (l0_3.length : Int)
             ·rw [if_pos c38] at H
              have c38b0 : decide (x7_3 < (l0_3.length : Int)) = true := decide_eq_true c38
              clear c38
              by_cases c39 : x7_3 < (l1_3.length : Int)
              ·rw [if_pos c39] at H
               have c39b0 : decide (x7_3 < (l1_3.length : Int)) = true := decide_eq_true c39
               clear c39
               replace H := Option.bind_eq_some_iff.mp H
               obtain ⟨t894, A400, H⟩ := H
               replace H : (if t894 = 0 then (spec_CompareVersion.l1 kj28 (wrap64 (x7_3 + 1)) a0_0 a0_1 a0_2 l0_3 a1_0 a1_1 a1_2 l1_3) else (some t894)) = some r := H
               have A40 := Aside0.mk A400
               clear A400
               by_cases c41 : t894 = 0
               ·rw [if_pos c41] at H
                have c41b0 : (t894 == 0) = true := beq_iff_eq.mpr c41
                have c41b1 : (t894 != 0) = false := bne_eq_false_iff_eq.mpr c41
                clear c41
                have H' := Aside0.mk H
                clear H
                try go_wp2
                have n0_ := Aside0.mk (blk_drew BK881.out)
                have n1_ := Aside0.mk (blk_drew BK882.out)
                have n2_ := Aside0.mk (below_drew1 HB.out)
                clear BK881
                clear BK882
                clear HB
                have BK881 := n0_
                have BK882 := n1_
                have HB := n2_
                clear n0_ n1_ n2_
                have p892 : 0 ≤ (x7_3 : Int) := of_decide_eq_true zb4
                have q892 : x7_3 < (l0_3.length : Int) := of_decide_eq_true zb4
                obtain ⟨ad892, e892, hx892_0⟩ := Kd.at_string HR0_3.out x7_3 p892 q892
                have hw892_0 := hx892_0
                cases e892
                replace hx892_0 := (HB.out.cell (World.block_lt_of_cell? w _ hx892_0)).trans hx892_0
                replace p892 := eq_true p892
                replace q892 := eq_true q892
                have p893 : 0 ≤ (x7_3 : Int) := of_decide_eq_true zb4
                have q893 : x7_3 < (l1_3.length : Int) := of_decide_eq_true zb4
                obtain ⟨ad893, e893, hx893_0⟩ := Kd.at_string HR1_3.out x7_3 p893 q893
                have hw893_0 := hx893_0
                cases e893
                replace hx893_0 := (HB.out.cell (World.block_lt_of_cell? w _ hx893_0)).trans hx893_0
                replace p893 := eq_true p893
                replace q893 := eq_true q893
                refine start_ (n := 12) (S := fun w' => w'.cell? ⟨gb881, 0, none⟩ = some (.int .i64 a0_0) ∧ w'.cell? ⟨gb881, 1, none⟩ = some (.int .i64 a0_1) ∧ w'.cell? ⟨gb881, 2, none⟩ = some (.int .i64 a0_2) ∧ w'.cell? ⟨gb881, 3, none⟩ = some (.slice (some ad892) l0_3.length c0_3) ∧ w'.cell? ⟨gb882, 0, none⟩ = some (.int .i64 a1_0) ∧ w'.cell? ⟨gb882, 1, none⟩ = some (.int .i64 a1_1) ∧ w'.cell? ⟨gb882, 2, none⟩ = some (.int .i64 a1_2) ∧ w'.cell? ⟨gb882, 3, none⟩ = some (.slice (some ad893) l1_3.length c1_3) ∧ w'.cell? (ad892.add (x7_3).toNat) = some (.string (rdOf ByteArray.empty l0_3 x7_3)) ∧ w'.cell? (ad893.add (x7_3).toNat) = some (.string (rdOf ByteArray.empty l1_3 x7_3))) (ds := []) #[false, false, false, false, false, false, false, false, false, false, false, false] (by kernel_rfl) rfl rfl ⟨(blk_cell BK881.out 0).trans rfl, (blk_cell BK881.out 1).trans rfl, (blk_cell BK881.out 2).trans rfl, (blk_cell BK881.out 3).trans rfl, (blk_cell BK882.out 0).trans rfl, (blk_cell BK882.out 1).trans rfl, (blk_cell BK882.out 2).trans rfl, (blk_cell BK882.out 3).trans rfl, ((HB.out.cell (World.block_lt_of_cell? w _ hw892_0)).trans hw892_0), ((HB.out.cell (World.block_lt_of_cell? w _ hw893_0)).trans hw893_0)⟩ (fun hHeld => ?_); refine with_tabW spec_CompareVersion.tab12 spec_CompareVersion.bits12 (fun HT_ HW_ => ?_)
                generalize wc.drew = w42 at BK881 BK882 HB hx892_0 hx893_0 hHeld ⊢
                refine pure_ (i := 0) (N := some 69) (v := ?_) (a' := ?_) #[true, false, false, false, false, false, false, false, false, false, false, false] rfl rfl (any_of HT_.out (by kernel_rfl)) (fun _ _ _ h => h) (Or.inl ⟨by rfl, ?_⟩) ?_ ?_
                rotate_left
                ·intro w'
                 go_simp
                 with_reducible rfl
                rotate_left
                ·simp only [Act.put, List.setIfInBounds_toArray, List.set_cons_zero, List.set_cons_succ, i64_w, i32_w]
                 rfl
                refine pure_ (i := 2) (N := some 71) (v := ?_) (a' := ?_) #[true, false, true, false, false, false, false, false, false, false, false, false] rfl rfl (any_of HT_.out (by kernel_rfl)) (fun _ _ _ h => h) (Or.inl ⟨by rfl, ?_⟩) ?_ ?_
                rotate_left
                ·intro w'
                 go_simp
                 with_reducible rfl
                rotate_left
                ·simp only [Act.put, List.setIfInBounds_toArray, List.set_cons_zero, List.set_cons_succ, i64_w, i32_w]
                 rfl
                refine pure_ (i := 5) (N := some 74) (v := ?_) (a' := ?_) #[true, false, true, false, false, true, false, false, false, false, false, false] rfl rfl (any_of HT_.out (by kernel_rfl)) (fun _ _ _ h => h) (Or.inl ⟨by rfl, ?_⟩) ?_ ?_
                rotate_left
                ·intro w'
                 go_simp
                 with_reducible rfl
                rotate_left
                ·simp only [Act.put, List.setIfInBounds_toArray, List.set_cons_zero, List.set_cons_succ, i64_w, i32_w]
                 rfl
                refine pure_ (i := 7) (N := some 76) (v := ?_) (a' := ?_) #[true, false, true, false, false, true, false, true, false, false, false, false] rfl rfl (any_of HT_.out (by kernel_rfl)) (fun _ _ _ h => h) (Or.inl ⟨by rfl, ?_⟩) ?_ ?_
                rotate_left
                ·intro w'
                 go_simp
                 with_reducible rfl
                rotate_left
                ·simp only [Act.put, List.setIfInBounds_toArray, List.set_cons_zero, List.set_cons_succ, i64_w, i32_w]
                 rfl
                refine take_ (i := 1) (N := some 70) (v := ?_) (a' := ?_) #[true, true, true, false, false, true, false, true, false, false, false, false] rfl rfl (take_ofW HT_.out HW_.out (by kernel_rfl)) (fun _ _ _ h => h) (Or.inl ⟨by rfl, ?_⟩) hHeld ?_ ?_
                rotate_left
                ·rintro w' ⟨s0, s1, s2, s3, s4, s5, s6, s7, s8, s9⟩
                 go_simp
                 with_reducible rfl
                rotate_left
                ·simp only [Act.put, List.setIfInBounds_toArray, List.set_cons_zero, List.set_cons_succ, i64_w, i32_w]
                 rfl
                refine pure_ (i := 3) (N := some 72) (v := ?_) (a' := ?_) #[true, true, true, true, false, true, false, true, false, false, false, false] rfl rfl (any_of HT_.out (by kernel_rfl)) (fun _ _ _ h => h) (Or.inl ⟨by rfl, ?_⟩) ?_ ?_
                rotate_left
                ·intro w'
                 go_simp
                 with_reducible rfl
                rotate_left
                ·simp only [Act.put, List.setIfInBounds_toArray, List.set_cons_zero, List.set_cons_succ, i64_w, i32_w]
                 rfl
                refine take_ (i := 4) (N := some 73) (v := ?_) (a' := ?_) #[true, true, true, true, true, true, false, true, false, false, false, false] rfl rfl (take_ofW HT_.out HW_.out (by kernel_rfl)) (fun _ _ _ h => h) (Or.inl ⟨by rfl, ?_⟩) hHeld ?_ ?_
                rotate_left
                ·rintro w' ⟨s0, s1, s2, s3, s4, s5, s6, s7, s8, s9⟩
                 go_simp
                 with_reducible rfl
                rotate_left
                ·simp only [Act.put, List.setIfInBounds_toArray, List.set_cons_zero, List.set_cons_succ, i64_w, i32_w]
                 rfl
                refine take_ (i := 6) (N := some 75) (v := ?_) (a' := ?_) #[true, true, true, true, true, true, true, true, false, false, false, false] rfl rfl (take_ofW HT_.out HW_.out (by kernel_rfl)) (fun _ _ _ h => h) (Or.inl ⟨by rfl, ?_⟩) hHeld ?_ ?_
                rotate_left
                ·rintro w' ⟨s0, s1, s2, s3, s4, s5, s6, s7, s8, s9⟩
                 go_simp
                 with_reducible rfl
                rotate_left
                ·simp only [Act.put, List.setIfInBounds_toArray, List.set_cons_zero, List.set_cons_succ, i64_w, i32_w]
                 rfl
                refine pure_ (i := 8) (N := some 77) (v := ?_) (a' := ?_) #[true, true, true, true, true, true, true, true, true, false, false, false] rfl rfl (any_of HT_.out (by kernel_rfl)) (fun _ _ _ h => h) (Or.inl ⟨by rfl, ?_⟩) ?_ ?_
                rotate_left
                ·intro w'
                 go_simp
                 with_reducible rfl
                rotate_left
                ·simp only [Act.put, List.setIfInBounds_toArray, List.set_cons_zero, List.set_cons_succ, i64_w, i32_w]
                 rfl
                refine take_ (i := 9) (N := some 78) (v := ?_) (a' := ?_) #[true, true, true, true, true, true, true, true, true, true, false, false] rfl rfl (take_ofW HT_.out HW_.out (by kernel_rfl)) (fun _ _ _ h => h) (Or.inl ⟨by rfl, ?_⟩) hHeld ?_ ?_
                rotate_left
                ·rintro w' ⟨s0, s1, s2, s3, s4, s5, s6, s7, s8, s9⟩
                 go_simp
                 with_reducible rfl
                rotate_left
                ·simp only [Act.put, List.setIfInBounds_toArray, List.set_cons_zero, List.set_cons_succ, i64_w, i32_w]
                 rfl
                refine one_ (i := 10) (N := some 79) #[true, true, true, true, true, true, true, true, true, true, true, false] rfl rfl (one_of HT_.out (by kernel_rfl)) (by decide) (fun K hK => ?_)
                refine goes_ Tryd.func185 (by kernel_rfl) rfl #[.string (rdOf ByteArray.empty l0_3 x7_3), .string (rdOf ByteArray.empty l1_3 x7_3)] (by rfl) rfl rfl zb1 ?_
                with_reducible refine (spec_l02Part.calls kj28 (rdOf ByteArray.empty l0_3 x7_3) (rdOf ByteArray.empty l1_3 x7_3) t894 _ A40.out).mono ?_
                rintro e w43 ⟨rfl, hb⟩
                refine ⟨_, rfl, ?_⟩
                have n0_ := Aside0.mk (blk_below (g := gb881) (o := .cells #[.int .i64 a0_0, .int .i64 a0_1, .int .i64 a0_2, .slice (some ad892) l0_3.length c0_3] 37 (0, 0)) (by (with_reducible repeat (first | refine bN_ ?_ _ | refine bD_ ?_ | refine bA_ ?_ _)); exact BK881.out) hb)
                have n1_ := Aside0.mk (blk_below (g := gb882) (o := .cells #[.int .i64 a1_0, .int .i64 a1_1, .int .i64 a1_2, .slice (some ad893) l1_3.length c1_3] 37 (0, 0)) (by (with_reducible repeat (first | refine bN_ ?_ _ | refine bD_ ?_ | refine bA_ ?_ _)); exact BK882.out) hb)
                have n2_ := Aside0.mk (below_step (by repeat (first | (with_reducible first | exact HB.out | apply below_alloc | apply pw_below_drewN | apply below_drew1 | refine below_set ?_ GE881.out | refine below_set ?_ GE882.out) | exact HB.out)) hb)
                clear BK881
                clear BK882
                clear HB
                have BK881 := n0_
                have BK882 := n1_
                have HB := n2_
                clear n0_ n1_ n2_
                (try clear hb)
                (try clear hb2)
                (try clear hk)
                (try clear hi)
                refine hK.out _ _ ⟨(blk_cell BK881.out 0).trans rfl, (blk_cell BK881.out 1).trans rfl, (blk_cell BK881.out 2).trans rfl, (blk_cell BK881.out 3).trans rfl, (blk_cell BK882.out 0).trans rfl, (blk_cell BK882.out 1).trans rfl, (blk_cell BK882.out 2).trans rfl, (blk_cell BK882.out 3).trans rfl, ((HB.out.cell (World.block_lt_of_cell? w _ hw892_0)).trans hw892_0), ((HB.out.cell (World.block_lt_of_cell? w _ hw893_0)).trans hw893_0)⟩ (fun hHeld => ?_)
                clear hK K
                refine norm_ (a' := ?_) ?_ ?_
                rotate_left
                ·show Act.put _ (some 79) _ = _
                 simp only [Act.put, List.setIfInBounds_toArray, List.set_cons_zero, List.set_cons_succ, i64_w, i32_w]
                 rfl
                refine pure_ (i := 11) (N := some 8) (v := ?_) (a' := ?_) #[true, true, true, true, true, true, true, true, true, true, true, true] rfl rfl (any_of HT_.out (by kernel_rfl)) (fun _ _ _ h => h) (Or.inl ⟨by rfl, ?_⟩) ?_ ?_
                rotate_left
                ·intro w'
                 go_simp
                 with_reducible rfl
                rotate_left
                ·simp only [Act.put, List.setIfInBounds_toArray, List.set_cons_zero, List.set_cons_succ, i64_w, i32_w]
                 rfl
                refine done_ (done_of HT_.out (by kernel_rfl)) ?_
                try go_wp2
                go_roundg kj28
                case measure => have := HK1.out; have := HJ16.out; have := HK3.out; have := HJ28.out; omega
                case rel => exact ⟨(wrap64 (x7_3 + 1)), zb5, H', ⟨by have := HK1.out; have := HJ16.out; have := HK3.out; have := HJ28.out; omega⟩, ⟨by (with_reducible repeat (first | refine bN_ ?_ _ | refine bD_ ?_ | refine bA_ ?_ _)); exact BK881.out⟩, ⟨by (with_reducible repeat (first | refine bN_ ?_ _ | refine bD_ ?_ | refine bA_ ?_ _)); exact BK882.out⟩, ⟨by repeat (first | (with_reducible first | exact HB.out | apply below_alloc | apply pw_below_drewN | apply below_drew1 | refine below_set ?_ GE881.out | refine below_set ?_ GE882.out) | exact HB.out)⟩⟩
               ·rw [if_neg c41] at H
                have c41b0 : (t894 == 0) = false := beq_eq_false_iff_ne.mpr c41
                have c41b1 : (t894 != 0) = true := bne_iff_ne.mpr c41
                obtain rfl := Option.some.inj H
                try go_wp2
                have n0_ := Aside0.mk (blk_drew BK881.out)
                have n1_ := Aside0.mk (blk_drew BK882.out)
                have n2_ := Aside0.mk (below_drew1 HB.out)
                clear BK881
                clear BK882
                clear HB
                have BK881 := n0_
                have BK882 := n1_
                have HB := n2_
                clear n0_ n1_ n2_
                have p892 : 0 ≤ (x7_3 : Int) := of_decide_eq_true zb4
                have q892 : x7_3 < (l0_3.length : Int) := of_decide_eq_true zb4
                obtain ⟨ad892, e892, hx892_0⟩ := Kd.at_string HR0_3.out x7_3 p892 q892
                have hw892_0 := hx892_0
                cases e892
                replace hx892_0 := (HB.out.cell (World.block_lt_of_cell? w _ hx892_0)).trans hx892_0
                replace p892 := eq_true p892
                replace q892 := eq_true q892
                have p893 : 0 ≤ (x7_3 : Int) := of_decide_eq_true zb4
                have q893 : x7_3 < (l1_3.length : Int) := of_decide_eq_true zb4
                obtain ⟨ad893, e893, hx893_0⟩ := Kd.at_string HR1_3.out x7_3 p893 q893
                have hw893_0 := hx893_0
                cases e893
                replace hx893_0 := (HB.out.cell (World.block_lt_of_cell? w _ hx893_0)).trans hx893_0
                replace p893 := eq_true p893
                replace q893 := eq_true q893
                refine start_ (n := 12) (S := fun w' => w'.cell? ⟨gb881, 0, none⟩ = some (.int .i64 a0_0) ∧ w'.cell? ⟨gb881, 1, none⟩ = some (.int .i64 a0_1) ∧ w'.cell? ⟨gb881, 2, none⟩ = some (.int .i64 a0_2) ∧ w'.cell? ⟨gb881, 3, none⟩ = some (.slice (some ad892) l0_3.length c0_3) ∧ w'.cell? ⟨gb882, 0, none⟩ = some (.int .i64 a1_0) ∧ w'.cell? ⟨gb882, 1, none⟩ = some (.int .i64 a1_1) ∧ w'.cell? ⟨gb882, 2, none⟩ = some (.int .i64 a1_2) ∧ w'.cell? ⟨gb882, 3, none⟩ = some (.slice (some ad893) l1_3.length c1_3) ∧ w'.cell? (ad892.add (x7_3).toNat) = some (.string (rdOf ByteArray.empty l0_3 x7_3)) ∧ w'.cell? (ad893.add (x7_3).toNat) = some (.string (rdOf ByteArray.empty l1_3 x7_3))) (ds := []) #[false, false, false, false, false, false, false, false, false, false, false, false] (by kernel_rfl) rfl rfl ⟨(blk_cell BK881.out 0).trans rfl, (blk_cell BK881.out 1).trans rfl, (blk_cell BK881.out 2).trans rfl, (blk_cell BK881.out 3).trans rfl, (blk_cell BK882.out 0).trans rfl, (blk_cell BK882.out 1).trans rfl, (blk_cell BK882.out 2).trans rfl, (blk_cell BK882.out 3).trans rfl, ((HB.out.cell (World.block_lt_of_cell? w _ hw892_0)).trans hw892_0), ((HB.out.cell (World.block_lt_of_cell? w _ hw893_0)).trans hw893_0)⟩ (fun hHeld => ?_); refine with_tabW spec_CompareVersion.tab12 spec_CompareVersion.bits12 (fun HT_ HW_ => ?_)
                generalize wc.drew = w44 at BK881 BK882 HB hx892_0 hx893_0 hHeld ⊢
                refine pure_ (i := 0) (N := some 69) (v := ?_) (a' := ?_) #[true, false, false, false, false, false, false, false, false, false, false, false] rfl rfl (any_of HT_.out (by kernel_rfl)) (fun _ _ _ h => h) (Or.inl ⟨by rfl, ?_⟩) ?_ ?_
                rotate_left
                ·intro w'
                 go_simp
                 with_reducible rfl
                rotate_left
                ·simp only [Act.put, List.setIfInBounds_toArray, List.set_cons_zero, List.set_cons_succ, i64_w, i32_w]
                 rfl
                refine pure_ (i := 2) (N := some 71) (v := ?_) (a' := ?_) #[true, false, true, false, false, false, false, false, false, false, false, false] rfl rfl (any_of HT_.out (by kernel_rfl)) (fun _ _ _ h => h) (Or.inl ⟨by rfl, ?_⟩) ?_ ?_
                rotate_left
                ·intro w'
                 go_simp
                 with_reducible rfl
                rotate_left
                ·simp only [Act.put, List.setIfInBounds_toArray, List.set_cons_zero, List.set_cons_succ, i64_w, i32_w]
                 rfl
                refine pure_ (i := 5) (N := some 74) (v := ?_) (a' := ?_) #[true, false, true, false, false, true, false, false, false, false, false, false] rfl rfl (any_of HT_.out (by kernel_rfl)) (fun _ _ _ h => h) (Or.inl ⟨by rfl, ?_⟩) ?_ ?_
                rotate_left
                ·intro w'
                 go_simp
                 with_reducible rfl
                rotate_left
                ·simp only [Act.put, List.setIfInBounds_toArray, List.set_cons_zero, List.set_cons_succ, i64_w, i32_w]
                 rfl
                refine pure_ (i := 7) (N := some 76) (v := ?_) (a' := ?_) #[true, false, true, false, false, true, false, true, false, false, false, false] rfl rfl (any_of HT_.out (by kernel_rfl)) (fun _ _ _ h => h) (Or.inl ⟨by rfl, ?_⟩) ?_ ?_
                rotate_left
                ·intro w'
                 go_simp
                 with_reducible rfl
                rotate_left
                ·simp only [Act.put, List.setIfInBounds_toArray, List.set_cons_zero, List.set_cons_succ, i64_w, i32_w]
                 rfl
                refine take_ (i := 1) (N := some 70) (v := ?_) (a' := ?_) #[true, true, true, false, false, true, false, true, false, false, false, false] rfl rfl (take_ofW HT_.out HW_.out (by kernel_rfl)) (fun _ _ _ h => h) (Or.inl ⟨by rfl, ?_⟩) hHeld ?_ ?_
                rotate_left
                ·rintro w' ⟨s0, s1, s2, s3, s4, s5, s6, s7, s8, s9⟩
                 go_simp
                 with_reducible rfl
                rotate_left
                ·simp only [Act.put, List.setIfInBounds_toArray, List.set_cons_zero, List.set_cons_succ, i64_w, i32_w]
                 rfl
                refine pure_ (i := 3) (N := some 72) (v := ?_) (a' := ?_) #[true, true, true, true, false, true, false, true, false, false, false, false] rfl rfl (any_of HT_.out (by kernel_rfl)) (fun _ _ _ h => h) (Or.inl ⟨by rfl, ?_⟩) ?_ ?_
                rotate_left
                ·intro w'
                 go_simp
                 with_reducible rfl
                rotate_left
                ·simp only [Act.put, List.setIfInBounds_toArray, List.set_cons_zero, List.set_cons_succ, i64_w, i32_w]
                 rfl
                refine take_ (i := 4) (N := some 73) (v := ?_) (a' := ?_) #[true, true, true, true, true, true, false, true, false, false, false, false] rfl rfl (take_ofW HT_.out HW_.out (by kernel_rfl)) (fun _ _ _ h => h) (Or.inl ⟨by rfl, ?_⟩) hHeld ?_ ?_
                rotate_left
                ·rintro w' ⟨s0, s1, s2, s3, s4, s5, s6, s7, s8, s9⟩
                 go_simp
                 with_reducible rfl
                rotate_left
                ·simp only [Act.put, List.setIfInBounds_toArray, List.set_cons_zero, List.set_cons_succ, i64_w, i32_w]
                 rfl
                refine take_ (i := 6) (N := some 75) (v := ?_) (a' := ?_) #[true, true, true, true, true, true, true, true, false, false, false, false] rfl rfl (take_ofW HT_.out HW_.out (by kernel_rfl)) (fun _ _ _ h => h) (Or.inl ⟨by rfl, ?_⟩) hHeld ?_ ?_
                rotate_left
                ·rintro w' ⟨s0, s1, s2, s3, s4, s5, s6, s7, s8, s9⟩
                 go_simp
                 with_reducible rfl
                rotate_left
                ·simp only [Act.put, List.setIfInBounds_toArray, List.set_cons_zero, List.set_cons_succ, i64_w, i32_w]
                 rfl
                refine pure_ (i := 8) (N := some 77) (v := ?_) (a' := ?_) #[true, true, true, true, true, true, true, true, true, false, false, false] rfl rfl (any_of HT_.out (by kernel_rfl)) (fun _ _ _ h => h) (Or.inl ⟨by rfl, ?_⟩) ?_ ?_
                rotate_left
                ·intro w'
                 go_simp
                 with_reducible rfl
                rotate_left
                ·simp only [Act.put, List.setIfInBounds_toArray, List.set_cons_zero, List.set_cons_succ, i64_w, i32_w]
                 rfl
                refine take_ (i := 9) (N := some 78) (v := ?_) (a' := ?_) #[true, true, true, true, true, true, true, true, true, true, false, false] rfl rfl (take_ofW HT_.out HW_.out (by kernel_rfl)) (fun _ _ _ h => h) (Or.inl ⟨by rfl, ?_⟩) hHeld ?_ ?_
                rotate_left
                ·rintro w' ⟨s0, s1, s2, s3, s4, s5, s6, s7, s8, s9⟩
                 go_simp
                 with_reducible rfl
                rotate_left
                ·simp only [Act.put, List.setIfInBounds_toArray, List.set_cons_zero, List.set_cons_succ, i64_w, i32_w]
                 rfl
                refine one_ (i := 10) (N := some 79) #[true, true, true, true, true, true, true, true, true, true, true, false] rfl rfl (one_of HT_.out (by kernel_rfl)) (by decide) (fun K hK => ?_)
                refine goes_ Tryd.func185 (by kernel_rfl) rfl #[.string (rdOf ByteArray.empty l0_3 x7_3), .string (rdOf ByteArray.empty l1_3 x7_3)] (by rfl) rfl rfl zb1 ?_
                with_reducible refine (spec_l02Part.calls kj28 (rdOf ByteArray.empty l0_3 x7_3) (rdOf ByteArray.empty l1_3 x7_3) t894 _ A40.out).mono ?_
                rintro e w45 ⟨rfl, hb⟩
                refine ⟨_, rfl, ?_⟩
                have n0_ := Aside0.mk (blk_below (g := gb881) (o := .cells #[.int .i64 a0_0, .int .i64 a0_1, .int .i64 a0_2, .slice (some ad892) l0_3.length c0_3] 37 (0, 0)) (by (with_reducible repeat (first | refine bN_ ?_ _ | refine bD_ ?_ | refine bA_ ?_ _)); exact BK881.out) hb)
                have n1_ := Aside0.mk (blk_below (g := gb882) (o := .cells #[.int .i64 a1_0, .int .i64 a1_1, .int .i64 a1_2, .slice (some ad893) l1_3.length c1_3] 37 (0, 0)) (by (with_reducible repeat (first | refine bN_ ?_ _ | refine bD_ ?_ | refine bA_ ?_ _)); exact BK882.out) hb)
                have n2_ := Aside0.mk (below_step (by repeat (first | (with_reducible first | exact HB.out | apply below_alloc | apply pw_below_drewN | apply below_drew1 | refine below_set ?_ GE881.out | refine below_set ?_ GE882.out) | exact HB.out)) hb)
                clear BK881
                clear BK882
                clear HB
                have BK881 := n0_
                have BK882 := n1_
                have HB := n2_
                clear n0_ n1_ n2_
                (try clear hb)
                (try clear hb2)
                (try clear hk)
                (try clear hi)
                refine hK.out _ _ ⟨(blk_cell BK881.out 0).trans rfl, (blk_cell BK881.out 1).trans rfl, (blk_cell BK881.out 2).trans rfl, (blk_cell BK881.out 3).trans rfl, (blk_cell BK882.out 0).trans rfl, (blk_cell BK882.out 1).trans rfl, (blk_cell BK882.out 2).trans rfl, (blk_cell BK882.out 3).trans rfl, ((HB.out.cell (World.block_lt_of_cell? w _ hw892_0)).trans hw892_0), ((HB.out.cell (World.block_lt_of_cell? w _ hw893_0)).trans hw893_0)⟩ (fun hHeld => ?_)
                clear hK K
                refine norm_ (a' := ?_) ?_ ?_
                rotate_left
                ·show Act.put _ (some 79) _ = _
                 simp only [Act.put, List.setIfInBounds_toArray, List.set_cons_zero, List.set_cons_succ, i64_w, i32_w]
                 rfl
                refine pure_ (i := 11) (N := some 8) (v := ?_) (a' := ?_) #[true, true, true, true, true, true, true, true, true, true, true, true] rfl rfl (any_of HT_.out (by kernel_rfl)) (fun _ _ _ h => h) (Or.inl ⟨by rfl, ?_⟩) ?_ ?_
                rotate_left
                ·intro w'
                 go_simp
                 with_reducible rfl
                rotate_left
                ·simp only [Act.put, List.setIfInBounds_toArray, List.set_cons_zero, List.set_cons_succ, i64_w, i32_w]
                 rfl
                refine done_ (done_of HT_.out (by kernel_rfl)) ?_
                try go_wp2
                go_ret
                exact ⟨zb3, by repeat (first | (with_reducible first | exact HB.out | apply below_alloc | apply pw_below_drewN | apply below_drew1 | refine below_set ?_ GE881.out | refine below_set ?_ GE882.out) | exact HB.out)⟩
              ·rw [if_neg c39] at H
               exact absurd H (by simp)
             ·rw [if_neg c38] at H
              exact absurd H (by simp)
            ·rw [if_neg c37] at H
             exact absurd H (by simp)
           ·replace c36 := Bool.eq_false_iff.mpr c36
            subst c36
            have H1 : ((spec_l02Less.f (l0_3.length : Int) (l1_3.length : Int)).bind fun t895 => (some t895)) = some r := by rw [if_neg (show ¬ (false = true) by decide)] at H; exact H
            clear H
            have H := H1
            clear H1
            replace H := Option.bind_eq_some_iff.mp H
            obtain ⟨t895, A460, H⟩ := H
            replace H : (some t895) = some r := H
            have A46 := Aside0.mk A460
            clear A460
            obtain rfl := Option.some.inj H
            have hnb47 := NB881_882.out
            have hnc47 := NB882_881.out
            have hcz48_0 : wc.cell? ⟨gb881, 0, none⟩ = some (.int .i64 a0_0) := (blk_cell BK881.out 0).trans rfl
            have hcz48_1 : wc.cell? ⟨gb881, 1, none⟩ = some (.int .i64 a0_1) := (blk_cell BK881.out 1).trans rfl
            have hcz48_2 : wc.cell? ⟨gb881, 2, none⟩ = some (.int .i64 a0_2) := (blk_cell BK881.out 2).trans rfl
            have hcz48_3 : wc.cell? ⟨gb881, 3, none⟩ = some (.slice A0_3 l0_3.length c0_3) := (blk_cell BK881.out 3).trans rfl
            have hfz48_0 := blk_frozen BK881.out 0
            have hfz48_1 := blk_frozen BK881.out 1
            have hfz48_2 := blk_frozen BK881.out 2
            have hfz48_3 := blk_frozen BK881.out 3
            have hcz49_0 : wc.cell? ⟨gb882, 0, none⟩ = some (.int .i64 a1_0) := (blk_cell BK882.out 0).trans rfl
            have hcz49_1 : wc.cell? ⟨gb882, 1, none⟩ = some (.int .i64 a1_1) := (blk_cell BK882.out 1).trans rfl
            have hcz49_2 : wc.cell? ⟨gb882, 2, none⟩ = some (.int .i64 a1_2) := (blk_cell BK882.out 2).trans rfl
            have hcz49_3 : wc.cell? ⟨gb882, 3, none⟩ = some (.slice A1_3 l1_3.length c1_3) := (blk_cell BK882.out 3).trans rfl
            have hfz49_0 := blk_frozen BK882.out 0
            have hfz49_1 := blk_frozen BK882.out 1
            have hfz49_2 := blk_frozen BK882.out 2
            have hfz49_3 := blk_frozen BK882.out 3
            go_wp2_with (first | ((with_reducible refine gate_callee (f := 184) rfl ?_); refine goesL_ (some 89) rfl rfl Tryd.func184 (by kernel_rfl) rfl #[.int .i64 (l0_3.length : Int), .int .i64 (l1_3.length : Int)] rfl zb1 ?_; (with_reducible refine (spec_l02Less.calls (l0_3.length : Int) (l1_3.length : Int) t895 _ A46.out).mono ?_); rintro e w' ⟨rfl, ⟨nd, rfl⟩⟩; refine ⟨_, rfl, ?_⟩))
            go_ret
            exact ⟨zb3, by repeat (first | (with_reducible first | exact HB.out | apply below_alloc | apply pw_below_drewN | apply below_drew1 | refine below_set ?_ GE881.out | refine below_set ?_ GE882.out) | exact HB.out)⟩

end Go.Proofs.YtgfaphlpkjikkaaDoor.G
