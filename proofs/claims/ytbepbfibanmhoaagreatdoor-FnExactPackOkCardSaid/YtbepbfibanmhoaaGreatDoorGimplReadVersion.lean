/- A part of the proof that the law FnExactPackOk answers true at every input that its row speaks of. Conditions: the row's own. -/
import Derived.Test.YtbepbfibanmhoaaGreatDoorKFnExactPackOk0
import Derived.Test.YtbepbfibanmhoaaGreatDoorGimplVersionText
namespace Go.Proofs.YtbepbfibanmhoaaGreatDoor.G
open Go.RowKit Go.Proofs.YtbepbfibanmhoaaGreatDoorW.PrintWords Go.Proofs.YtbepbfibanmhoaaGreatDoorW.PrintLast Go.Proofs.YtbepbfibanmhoaaGreatDoorW.PrintMore
attribute [local go_sem] max2_int min2_int max_two min_two max_three min_three max_four min_four
attribute [local go_sem high] Go.Proofs.YtbepbfibanmhoaaGreatDoor.G.str_gtr Go.Proofs.YtbepbfibanmhoaaGreatDoor.G.str_leq Go.Proofs.YtbepbfibanmhoaaGreatDoor.G.str_geq
set_option linter.unusedVariables false
set_option linter.unusedSimpArgs false
def impl_ReadVersion.f (k : Nat) (a0 : ByteArray) : Option (Int × Int × Int × List ByteArray × Bool) := (strings_Cut.f a0 (⟨#[45]⟩ : ByteArray)).bind fun bt252 => ((strings_Split.f bt252.1 (⟨#[46]⟩ : ByteArray)).bind fun t255 => (if (t255.length : Int) = 3 then (if 0 < (t255.length : Int) then ((impl_ReadDec.f (rdOf ByteArray.empty t255 0)).bind fun t259 => (if 1 < (t255.length : Int) then ((impl_ReadDec.f (rdOf ByteArray.empty t255 1)).bind fun t261 => (if 2 < (t255.length : Int) then ((impl_ReadDec.f (rdOf ByteArray.empty t255 2)).bind fun t263 => (if bt252.2.2 = true then ((strings_Split.f bt252.2.1 (⟨#[46]⟩ : ByteArray)).bind fun t265 => ((impl_VersionText.f k t259 t261 t263 t265).bind fun t268 => (if t268.toList = a0.toList then (if a0.toList = ([] : List UInt8) then (some (0, 0, 0, ([] : List ByteArray), false)) else (some (t259, t261, t263, t265, true))) else (some (0, 0, 0, ([] : List ByteArray), false))))) else ((impl_VersionText.f k t259 t261 t263 ([] : List ByteArray)).bind fun t269 => (if t269.toList = a0.toList then (if a0.toList = ([] : List UInt8) then (some (0, 0, 0, ([] : List ByteArray), false)) else (some (t259, t261, t263, ([] : List ByteArray), true))) else (some (0, 0, 0, ([] : List ByteArray), false)))))) else (none))) else (none))) else (none)) else (some (0, 0, 0, ([] : List ByteArray), false))))
def impl_ReadVersion.T5 : Bool × List (List Nat × List Nat) := (true, [([], []), ([0], [0]), ([1], [1]), ([2], [2]), ([], []), ([4], [4]), ([5], [5]), ([6, 3], [6]), ([], []), ([8], [8]), ([9], [9]), ([10, 7], [10]), ([3, 7, 11], [3, 7, 11]), ([], []), ([13, 12, 11, 0, 1, 2, 3, 4, 5, 6, 7, 8, 9, 10, 11, 12, 13], [12, 13])])
def impl_ReadVersion.B5 : List Nat := [0, 1, 3, 7, 0, 16, 48, 127, 0, 256, 768, 2047, 4095, 0, 16383]
theorem impl_ReadVersion.tab5 : rtab .any (opsOf Tryz.f31 5) = impl_ReadVersion.T5 := by kernel_rfl
theorem impl_ReadVersion.bits5 : waitsOk impl_ReadVersion.T5.2 impl_ReadVersion.B5 = true := by kernel_rfl
set_option maxRecDepth 100000 in
theorem impl_ReadVersion.zl1 {P : Prop} (h : P := by
 try go_wp2_with (first | ((with_reducible refine gate_callee (f := 58) rfl ?_); refine goesL_ (some 36) rfl rfl Tryz.func58 zb6 rfl #[.string t253, .string (⟨#[46]⟩ : ByteArray)] rfl zb1 ?_; (with_reducible refine (strings_Split.calls t253 (⟨#[46]⟩ : ByteArray) t265 _ ?side1 A12.out).mono ?_); (case side1 => exact Glob.below HGM.out zb4); rintro e w29 ⟨v266, rfl, ho0, hb⟩; refine ⟨_, rfl, ?_⟩; have n0_ := Aside0.mk (Kd.R_elder' (by (with_reducible repeat (first | apply Kd.R_alloc | apply Kd.R_drewN | apply Kd.R_drew)); exact (Kd.R_mono (Kd.R_far (p := ⟨gb264, 3, none⟩) (Kd.R_far (p := ⟨gb264, 2, none⟩) (Kd.R_far (p := ⟨gb264, 1, none⟩) (Kd.R_far (p := ⟨gb264, 0, none⟩) (Kd.R_types HO257.out BK264.out (by decide)) (fun _ hk => hk.2) (.int .i64 t259)) (fun _ hk => hk.2) (.int .i64 t261)) (fun _ hk => hk.2) (.int .i64 t263)) (fun _ hk => hk.2) (.slice none 0 0)) (fun _ h_ => h_.1))) (Kd.R_base ho0) hb); have n1_ := Aside0.mk (Kd.R_lower (Kd.R_new' ho0 (Kd.R_lt (by (with_reducible repeat (first | apply Kd.R_alloc | apply Kd.R_drewN | apply Kd.R_drew)); exact (Kd.R_mono (Kd.R_far (p := ⟨gb264, 3, none⟩) (Kd.R_far (p := ⟨gb264, 2, none⟩) (Kd.R_far (p := ⟨gb264, 1, none⟩) (Kd.R_far (p := ⟨gb264, 0, none⟩) (Kd.R_types HO257.out BK264.out (by decide)) (fun _ hk => hk.2) (.int .i64 t259)) (fun _ hk => hk.2) (.int .i64 t261)) (fun _ hk => hk.2) (.int .i64 t263)) (fun _ hk => hk.2) (.slice none 0 0)) (fun _ h_ => h_.1))))) (below_size zb4)); have n2_ := Aside0.mk (blk_below (g := gb251) (o := .cells #[.int .i64 0, .int .i64 0, .int .i64 0, .slice none 0 0] 50 (0, 0)) (by (with_reducible repeat (first | refine bN_ ?_ _ | refine bD_ ?_ | refine bA_ ?_ _)); refine blk_far ?_ NB251_264.out _; (with_reducible repeat (first | refine bN_ ?_ _ | refine bD_ ?_ | refine bA_ ?_ _)); refine blk_far ?_ NB251_264.out _; (with_reducible repeat (first | refine bN_ ?_ _ | refine bD_ ?_ | refine bA_ ?_ _)); refine blk_far ?_ NB251_264.out _; (with_reducible repeat (first | refine bN_ ?_ _ | refine bD_ ?_ | refine bA_ ?_ _)); refine blk_far ?_ NB251_264.out _; (with_reducible repeat (first | refine bN_ ?_ _ | refine bD_ ?_ | refine bA_ ?_ _)); exact BK251.out) hb); have n3_ := Aside0.mk (blk_below (g := gb264) (o := .cells #[.int .i64 t259, .int .i64 t261, .int .i64 t263, .slice none 0 0] 50 (0, 0)) (by (with_reducible repeat (first | refine bN_ ?_ _ | refine bD_ ?_ | refine bA_ ?_ _)); refine blk_put (cs := #[.int .i64 t259, .int .i64 t261, .int .i64 t263, .slice none 0 0]) ?_ 3 _ rfl; (with_reducible repeat (first | refine bN_ ?_ _ | refine bD_ ?_ | refine bA_ ?_ _)); refine blk_put (cs := #[.int .i64 t259, .int .i64 t261, .int .i64 0, .slice none 0 0]) ?_ 2 _ rfl; (with_reducible repeat (first | refine bN_ ?_ _ | refine bD_ ?_ | refine bA_ ?_ _)); refine blk_put (cs := #[.int .i64 t259, .int .i64 0, .int .i64 0, .slice none 0 0]) ?_ 1 _ rfl; (with_reducible repeat (first | refine bN_ ?_ _ | refine bD_ ?_ | refine bA_ ?_ _)); refine blk_put (cs := #[.int .i64 0, .int .i64 0, .int .i64 0, .slice none 0 0]) ?_ 0 _ rfl; (with_reducible repeat (first | refine bN_ ?_ _ | refine bD_ ?_ | refine bA_ ?_ _)); exact BK264.out) hb); have n4_ := Aside0.mk (below_step zb4 hb); clear HO257; clear BK251; clear BK264; clear HB; have HO257 := n0_; have HO267 := n1_; have BK251 := n2_; have BK264 := n3_; have HB := n4_; clear n0_ n1_ n2_ n3_ n4_; (try clear hb); (try clear ho0); obtain ⟨Ao30, co30, eo30⟩ := Kd.R_slice HO267.out; subst eo30; have hnb31 := NB264_251.out; have hnc31 := NB251_264.out; obtain ⟨hcz32_0, hcz32_1, hcz32_2, hcz32_3, hfz32_0, hfz32_1, hfz32_2, hfz32_3⟩ := blk_4 BK264.out; (try have hz0_0 := NB264_251.out); (try have hz0_1 := NB251_264.out); (try have hz0_2 : w29.cell? ⟨gb264, 0, none⟩ = some (.int .i64 t259) := (blk_cell BK264.out 0).trans rfl); (try have hz0_3 : w29.cell? ⟨gb264, 1, none⟩ = some (.int .i64 t261) := (blk_cell BK264.out 1).trans rfl); (try have hz0_4 : w29.cell? ⟨gb264, 2, none⟩ = some (.int .i64 t263) := (blk_cell BK264.out 2).trans rfl); (try have hz0_5 : w29.cell? ⟨gb264, 3, none⟩ = some (.slice none 0 0) := (blk_cell BK264.out 3).trans rfl); (try have hz0_6 := blk_frozen BK264.out 0); (try have hz0_7 := blk_frozen BK264.out 1); (try have hz0_8 := blk_frozen BK264.out 2); (try have hz0_9 := blk_frozen BK264.out 3)) | ((with_reducible refine gate_callee (f := 60) rfl ?_); refine goesL_ (some 39) rfl rfl Tryz.func60 zb6 rfl #[.agg #[.int .i64 t259, .int .i64 t261, .int .i64 t263, .slice Ao30 t265.length co30]] rfl zb1 ?_; (with_reducible refine (impl_VersionText.calls k t259 t261 t263 _ _ t265 t268 _ ?side1 ?side2 ?side3 ?side4 A13.out).mono ?_); (case side1 => refine (Kd.R_reads' (e := 9) (base := w.heap.size) (ok := fun k_ => (True ∧ some k_ ≠ (.slice (some ad258) t255.length co18 : Value).ownBlock)) (n := t265.length) (c := co30) ?_).2.2; exact (by (with_reducible repeat (first | apply Kd.R_alloc | apply Kd.R_drewN | apply Kd.R_drew)); exact (Kd.R_mono (Kd.R_far (p := ⟨gb264, 3, none⟩) (Kd.R_types HO267.out BK264.out (by decide)) (fun _ hk => hk.2) (.slice Ao30 t265.length co30)) (fun _ h_ => h_.1)))); (case side2 => exact (Kd.R_reads' HO267.out).2.1); (case side3 => exact Glob.below HGE.out zb4); (case side4 => exact Glob.below HGT.out zb4); rintro e w33 ⟨rfl, hb⟩; refine ⟨_, rfl, ?_⟩; have n0_ := Aside0.mk (Kd.R_below (by (with_reducible repeat (first | apply Kd.R_alloc | apply Kd.R_drewN | apply Kd.R_drew)); exact (Kd.R_mono (Kd.R_far (p := ⟨gb264, 3, none⟩) (Kd.R_types HO257.out BK264.out (by decide)) (fun _ hk => hk.2) (.slice Ao30 t265.length co30)) (fun _ h_ => h_.1))) hb); have n1_ := Aside0.mk (Kd.R_below (by (with_reducible repeat (first | apply Kd.R_alloc | apply Kd.R_drewN | apply Kd.R_drew)); exact (Kd.R_mono (Kd.R_far (p := ⟨gb264, 3, none⟩) (Kd.R_types HO267.out BK264.out (by decide)) (fun _ hk => hk.2) (.slice Ao30 t265.length co30)) (fun _ h_ => h_.1))) hb); have n2_ := Aside0.mk (blk_below (g := gb251) (o := .cells #[.int .i64 0, .int .i64 0, .int .i64 0, .slice none 0 0] 50 (0, 0)) (by (with_reducible repeat (first | refine bN_ ?_ _ | refine bD_ ?_ | refine bA_ ?_ _)); refine blk_far ?_ NB251_264.out _; (with_reducible repeat (first | refine bN_ ?_ _ | refine bD_ ?_ | refine bA_ ?_ _)); exact BK251.out) hb); have n3_ := Aside0.mk (blk_below (g := gb264) (o := .cells #[.int .i64 t259, .int .i64 t261, .int .i64 t263, .slice Ao30 t265.length co30] 50 (0, 0)) (by (with_reducible repeat (first | refine bN_ ?_ _ | refine bD_ ?_ | refine bA_ ?_ _)); refine blk_put (cs := #[.int .i64 t259, .int .i64 t261, .int .i64 t263, .slice none 0 0]) ?_ 3 _ rfl; (with_reducible repeat (first | refine bN_ ?_ _ | refine bD_ ?_ | refine bA_ ?_ _)); exact BK264.out) hb); have n4_ := Aside0.mk (below_step zb4 hb); clear HO257; clear HO267; clear BK251; clear BK264; clear HB; have HO257 := n0_; have HO267 := n1_; have BK251 := n2_; have BK264 := n3_; have HB := n4_; clear n0_ n1_ n2_ n3_ n4_; (try clear hb); obtain ⟨hcz34_0, hcz34_1, hcz34_2, hcz34_3, hfz34_0, hfz34_1, hfz34_2, hfz34_3⟩ := blk_4 BK251.out; (try have hz1_0 : w33.cell? ⟨gb251, 0, none⟩ = some (.int .i64 0) := (blk_cell BK251.out 0).trans rfl); (try have hz1_1 : w33.cell? ⟨gb251, 1, none⟩ = some (.int .i64 0) := (blk_cell BK251.out 1).trans rfl); (try have hz1_2 : w33.cell? ⟨gb251, 2, none⟩ = some (.int .i64 0) := (blk_cell BK251.out 2).trans rfl); (try have hz1_3 : w33.cell? ⟨gb251, 3, none⟩ = some (.slice none 0 0) := (blk_cell BK251.out 3).trans rfl); (try have hz1_4 := blk_frozen BK251.out 0); (try have hz1_5 := blk_frozen BK251.out 1); (try have hz1_6 := blk_frozen BK251.out 2); (try have hz1_7 := blk_frozen BK251.out 3)))
 refine bodyPost_ret (results_ct rfl _ _ gb251 50 #[.int .i64 0, .int .i64 0, .int .i64 0, .slice none 0 0] (0, 0) _ rfl (by (with_reducible repeat (first | refine bN_ ?_ _ | refine bD_ ?_ | refine bA_ ?_ _)); refine blk_put (cs := #[.int .i64 0, .int .i64 0, .int .i64 0, .slice none 0 0]) ?_ 3 _ rfl; (with_reducible repeat (first | refine bN_ ?_ _ | refine bD_ ?_ | refine bA_ ?_ _)); refine blk_put (cs := #[.int .i64 0, .int .i64 0, .int .i64 0, .slice none 0 0]) ?_ 2 _ rfl; (with_reducible repeat (first | refine bN_ ?_ _ | refine bD_ ?_ | refine bA_ ?_ _)); refine blk_put (cs := #[.int .i64 0, .int .i64 0, .int .i64 0, .slice none 0 0]) ?_ 1 _ rfl; (with_reducible repeat (first | refine bN_ ?_ _ | refine bD_ ?_ | refine bA_ ?_ _)); refine blk_put (cs := #[.int .i64 0, .int .i64 0, .int .i64 0, .slice none 0 0]) ?_ 0 _ rfl; (with_reducible repeat (first | refine bN_ ?_ _ | refine bD_ ?_ | refine bA_ ?_ _)); exact BK251.out) Tryz.underlying50 rfl zb6) rfl ?_
 exact ⟨_, zb3, by first | exact Kd.R_nil _ _ _ _ _ | exact Kd.N_nil _ _ _ _ _ | exact Kd.V_nil _ _ _ _ _ | exact Kd.Q_nil _ _ _ _ _ | exact Kd.S_nil _ _ _ _ _, by repeat (first | (with_reducible first | exact HB.out | apply below_alloc | apply pw_below_drewN | apply below_drew1 | refine below_set ?_ GE251.out | refine below_set ?_ GE264.out) | exact HB.out)⟩) : P := h
set_option maxRecDepth 100000 in
theorem impl_ReadVersion.zl2 {P : Prop} (h : P := by
 try go_wp2_with (first | ((with_reducible refine gate_callee (f := 60) rfl ?_); refine goesL_ (some 39) rfl rfl Tryz.func60 zb6 rfl #[.agg #[.int .i64 t259, .int .i64 t261, .int .i64 t263, .slice none 0 0]] rfl zb1 ?_; (refine (impl_VersionText.calls k t259 t261 t263 _ _ ([] : List ByteArray) t269 _ ?side1 ?side2 ?side3 ?side4 A74.out).mono ?_); (case side1 => exact Kd.C_nil _ _); (case side2 => exact Nat.le_refl _); (case side3 => exact Glob.below HGE.out zb4); (case side4 => exact Glob.below HGT.out zb4); rintro e w127 ⟨rfl, hb⟩; refine ⟨_, rfl, ?_⟩; have n0_ := Aside0.mk (Kd.R_below (by (with_reducible repeat (first | apply Kd.R_alloc | apply Kd.R_drewN | apply Kd.R_drew)); exact (Kd.R_mono (Kd.R_far (p := ⟨gb264, 3, none⟩) (Kd.R_far (p := ⟨gb264, 2, none⟩) (Kd.R_far (p := ⟨gb264, 1, none⟩) (Kd.R_far (p := ⟨gb264, 0, none⟩) (Kd.R_types HO257.out BK264.out (by decide)) (fun _ hk => hk.2) (.int .i64 t259)) (fun _ hk => hk.2) (.int .i64 t261)) (fun _ hk => hk.2) (.int .i64 t263)) (fun _ hk => hk.2) (.slice none 0 0)) (fun _ h_ => h_.1))) hb); have n1_ := Aside0.mk (blk_below (g := gb251) (o := .cells #[.int .i64 0, .int .i64 0, .int .i64 0, .slice none 0 0] 50 (0, 0)) (by (with_reducible repeat (first | refine bN_ ?_ _ | refine bD_ ?_ | refine bA_ ?_ _)); refine blk_far ?_ NB251_264.out _; (with_reducible repeat (first | refine bN_ ?_ _ | refine bD_ ?_ | refine bA_ ?_ _)); refine blk_far ?_ NB251_264.out _; (with_reducible repeat (first | refine bN_ ?_ _ | refine bD_ ?_ | refine bA_ ?_ _)); refine blk_far ?_ NB251_264.out _; (with_reducible repeat (first | refine bN_ ?_ _ | refine bD_ ?_ | refine bA_ ?_ _)); refine blk_far ?_ NB251_264.out _; (with_reducible repeat (first | refine bN_ ?_ _ | refine bD_ ?_ | refine bA_ ?_ _)); exact BK251.out) hb); have n2_ := Aside0.mk (blk_below (g := gb264) (o := .cells #[.int .i64 t259, .int .i64 t261, .int .i64 t263, .slice none 0 0] 50 (0, 0)) (by (with_reducible repeat (first | refine bN_ ?_ _ | refine bD_ ?_ | refine bA_ ?_ _)); refine blk_put (cs := #[.int .i64 t259, .int .i64 t261, .int .i64 t263, .slice none 0 0]) ?_ 3 _ rfl; (with_reducible repeat (first | refine bN_ ?_ _ | refine bD_ ?_ | refine bA_ ?_ _)); refine blk_put (cs := #[.int .i64 t259, .int .i64 t261, .int .i64 0, .slice none 0 0]) ?_ 2 _ rfl; (with_reducible repeat (first | refine bN_ ?_ _ | refine bD_ ?_ | refine bA_ ?_ _)); refine blk_put (cs := #[.int .i64 t259, .int .i64 0, .int .i64 0, .slice none 0 0]) ?_ 1 _ rfl; (with_reducible repeat (first | refine bN_ ?_ _ | refine bD_ ?_ | refine bA_ ?_ _)); refine blk_put (cs := #[.int .i64 0, .int .i64 0, .int .i64 0, .slice none 0 0]) ?_ 0 _ rfl; (with_reducible repeat (first | refine bN_ ?_ _ | refine bD_ ?_ | refine bA_ ?_ _)); exact BK264.out) hb); have n3_ := Aside0.mk (below_step zb4 hb); clear HO257; clear BK251; clear BK264; clear HB; have HO257 := n0_; have BK251 := n1_; have BK264 := n2_; have HB := n3_; clear n0_ n1_ n2_ n3_; (try clear hb); obtain ⟨hcz128_0, hcz128_1, hcz128_2, hcz128_3, hfz128_0, hfz128_1, hfz128_2, hfz128_3⟩ := blk_4 BK251.out; (try have hz0_0 : w127.cell? ⟨gb251, 0, none⟩ = some (.int .i64 0) := (blk_cell BK251.out 0).trans rfl); (try have hz0_1 : w127.cell? ⟨gb251, 1, none⟩ = some (.int .i64 0) := (blk_cell BK251.out 1).trans rfl); (try have hz0_2 : w127.cell? ⟨gb251, 2, none⟩ = some (.int .i64 0) := (blk_cell BK251.out 2).trans rfl); (try have hz0_3 : w127.cell? ⟨gb251, 3, none⟩ = some (.slice none 0 0) := (blk_cell BK251.out 3).trans rfl); (try have hz0_4 := blk_frozen BK251.out 0); (try have hz0_5 := blk_frozen BK251.out 1); (try have hz0_6 := blk_frozen BK251.out 2); (try have hz0_7 := blk_frozen BK251.out 3)))
 refine bodyPost_ret (results_ct rfl _ _ gb251 50 #[.int .i64 0, .int .i64 0, .int .i64 0, .slice none 0 0] (0, 0) _ rfl (by (with_reducible repeat (first | refine bN_ ?_ _ | refine bD_ ?_ | refine bA_ ?_ _)); refine blk_put (cs := #[.int .i64 0, .int .i64 0, .int .i64 0, .slice none 0 0]) ?_ 3 _ rfl; (with_reducible repeat (first | refine bN_ ?_ _ | refine bD_ ?_ | refine bA_ ?_ _)); refine blk_put (cs := #[.int .i64 0, .int .i64 0, .int .i64 0, .slice none 0 0]) ?_ 2 _ rfl; (with_reducible repeat (first | refine bN_ ?_ _ | refine bD_ ?_ | refine bA_ ?_ _)); refine blk_put (cs := #[.int .i64 0, .int .i64 0, .int .i64 0, .slice none 0 0]) ?_ 1 _ rfl; (with_reducible repeat (first | refine bN_ ?_ _ | refine bD_ ?_ | refine bA_ ?_ _)); refine blk_put (cs := #[.int .i64 0, .int .i64 0, .int .i64 0, .slice none 0 0]) ?_ 0 _ rfl; (with_reducible repeat (first | refine bN_ ?_ _ | refine bD_ ?_ | refine bA_ ?_ _)); exact BK251.out) Tryz.underlying50 rfl zb6) rfl ?_
 exact ⟨_, zb3, by first | exact Kd.R_nil _ _ _ _ _ | exact Kd.N_nil _ _ _ _ _ | exact Kd.V_nil _ _ _ _ _ | exact Kd.Q_nil _ _ _ _ _ | exact Kd.S_nil _ _ _ _ _, by repeat (first | (with_reducible first | exact HB.out | apply below_alloc | apply pw_below_drewN | apply below_drew1 | refine below_set ?_ GE251.out | refine below_set ?_ GE264.out) | exact HB.out)⟩) : P := h
set_option maxHeartbeats 8000000 in
set_option maxRecDepth 100000 in
theorem impl_ReadVersion.calls (k : Nat) (a0 : ByteArray) (r1 : Int) (r2 : Int) (r3 : Int) (r4 : List ByteArray) (r5 : Bool) (w : World) (hGE : Glob FactE w) (hGM : Glob FactM w) (hGT : Glob FactT w) (h : impl_ReadVersion.f k a0 = some (r1, r2, r3, r4, r5)) :
  Calls Tryz.prog 31 #[.string a0] w fun e w' => ∃ v3_ : Value, e = .returned (.tuple #[.agg #[.int .i64 r1, .int .i64 r2, .int .i64 r3, v3_], .bool r5]) ∧ Kd.R Kd.string 9 w' w.heap.size (fun _ => True) v3_ r4 ∧ Below w.heap.size w w' := by
 have hu50 := Tryz.underlying50
 have HB := Aside0.mk (Below.refl w.heap.size w)
 have HGE := Aside0.mk hGE
 clear hGE
 have HGM := Aside0.mk hGM
 clear hGM
 have HGT := Aside0.mk hGT
 clear hGT
 have H : ((strings_Cut.f a0 (⟨#[45]⟩ : ByteArray)).bind fun bt252 => ((strings_Split.f bt252.1 (⟨#[46]⟩ : ByteArray)).bind fun t255 => (if (t255.length : Int) = 3 then (if 0 < (t255.length : Int) then ((impl_ReadDec.f (rdOf ByteArray.empty t255 0)).bind fun t259 => (if 1 < (t255.length : Int) then ((impl_ReadDec.f (rdOf ByteArray.empty t255 1)).bind fun t261 => (if 2 < (t255.length : Int) then ((impl_ReadDec.f (rdOf ByteArray.empty t255 2)).bind fun t263 => (if bt252.2.2 = true then ((strings_Split.f bt252.2.1 (⟨#[46]⟩ : ByteArray)).bind fun t265 => ((impl_VersionText.f k t259 t261 t263 t265).bind fun t268 => (if t268.toList = a0.toList then (if a0.toList = ([] : List UInt8) then (some (0, 0, 0, ([] : List ByteArray), false)) else (some (t259, t261, t263, t265, true))) else (some (0, 0, 0, ([] : List ByteArray), false))))) else ((impl_VersionText.f k t259 t261 t263 ([] : List ByteArray)).bind fun t269 => (if t269.toList = a0.toList then (if a0.toList = ([] : List UInt8) then (some (0, 0, 0, ([] : List ByteArray), false)) else (some (t259, t261, t263, ([] : List ByteArray), true))) else (some (0, 0, 0, ([] : List ByteArray), false)))))) else (none))) else (none))) else (none)) else (some (0, 0, 0, ([] : List ByteArray), false))))) = some (r1, r2, r3, r4, r5) := h
 clear h
 replace H := Option.bind_eq_some_iff.mp H
 obtain ⟨⟨t252, t253, t254⟩, A20, H⟩ := H
 replace H : ((strings_Split.f t252 (⟨#[46]⟩ : ByteArray)).bind fun t255 => (if (t255.length : Int) = 3 then (if 0 < (t255.length : Int) then ((impl_ReadDec.f (rdOf ByteArray.empty t255 0)).bind fun t259 => (if 1 < (t255.length : Int) then ((impl_ReadDec.f (rdOf ByteArray.empty t255 1)).bind fun t261 => (if 2 < (t255.length : Int) then ((impl_ReadDec.f (rdOf ByteArray.empty t255 2)).bind fun t263 => (if t254 = true then ((strings_Split.f t253 (⟨#[46]⟩ : ByteArray)).bind fun t265 => ((impl_VersionText.f k t259 t261 t263 t265).bind fun t268 => (if t268.toList = a0.toList then (if a0.toList = ([] : List UInt8) then (some (0, 0, 0, ([] : List ByteArray), false)) else (some (t259, t261, t263, t265, true))) else (some (0, 0, 0, ([] : List ByteArray), false))))) else ((impl_VersionText.f k t259 t261 t263 ([] : List ByteArray)).bind fun t269 => (if t269.toList = a0.toList then (if a0.toList = ([] : List UInt8) then (some (0, 0, 0, ([] : List ByteArray), false)) else (some (t259, t261, t263, ([] : List ByteArray), true))) else (some (0, 0, 0, ([] : List ByteArray), false)))))) else (none))) else (none))) else (none)) else (some (0, 0, 0, ([] : List ByteArray), false)))) = some (r1, r2, r3, r4, r5) := H
 have A2 := Aside0.mk A20
 clear A20
 replace H := Option.bind_eq_some_iff.mp H
 obtain ⟨t255, A30, H⟩ := H
 replace H : (if (t255.length : Int) = 3 then (if 0 < (t255.length : Int) then ((impl_ReadDec.f (rdOf ByteArray.empty t255 0)).bind fun t259 => (if 1 < (t255.length : Int) then ((impl_ReadDec.f (rdOf ByteArray.empty t255 1)).bind fun t261 => (if 2 < (t255.length : Int) then ((impl_ReadDec.f (rdOf ByteArray.empty t255 2)).bind fun t263 => (if t254 = true then ((strings_Split.f t253 (⟨#[46]⟩ : ByteArray)).bind fun t265 => ((impl_VersionText.f k t259 t261 t263 t265).bind fun t268 => (if t268.toList = a0.toList then (if a0.toList = ([] : List UInt8) then (some (0, 0, 0, ([] : List ByteArray), false)) else (some (t259, t261, t263, t265, true))) else (some (0, 0, 0, ([] : List ByteArray), false))))) else ((impl_VersionText.f k t259 t261 t263 ([] : List ByteArray)).bind fun t269 => (if t269.toList = a0.toList then (if a0.toList = ([] : List UInt8) then (some (0, 0, 0, ([] : List ByteArray), false)) else (some (t259, t261, t263, ([] : List ByteArray), true))) else (some (0, 0, 0, ([] : List ByteArray), false)))))) else (none))) else (none))) else (none)) else (some (0, 0, 0, ([] : List ByteArray), false))) = some (r1, r2, r3, r4, r5) := H
 have A3 := Aside0.mk A30
 clear A30
 by_cases c4 : (t255.length : Int) = 3
 ·rw [if_pos c4] at H
  have c4b0 : ((t255.length : Int) == 3) = true := beq_iff_eq.mpr c4
  have c4b1 : ((t255.length : Int) != 3) = false := bne_eq_false_iff_eq.mpr c4
  clear c4
  by_cases c5 : 0 < (t255.length : Int)
  ·rw [if_pos c5] at H
   have c5b0 : decide (0 < (t255.length : Int)) = true := decide_eq_true c5
   have c5b1 : decide (0 < t255.length) = true := decide_eq_true (by omega)
   clear c5
   replace H := Option.bind_eq_some_iff.mp H
   obtain ⟨t259, A60, H⟩ := H
   replace H : (if 1 < (t255.length : Int) then ((impl_ReadDec.f (rdOf ByteArray.empty t255 1)).bind fun t261 => (if 2 < (t255.length : Int) then ((impl_ReadDec.f (rdOf ByteArray.empty t255 2)).bind fun t263 => (if t254 = true then ((strings_Split.f t253 (⟨#[46]⟩ : ByteArray)).bind fun t265 => ((impl_VersionText.f k t259 t261 t263 t265).bind fun t268 => (if t268.toList = a0.toList then (if a0.toList = ([] : List UInt8) then (some (0, 0, 0, ([] : List ByteArray), false)) else (some (t259, t261, t263, t265, true))) else (some (0, 0, 0, ([] : List ByteArray), false))))) else ((impl_VersionText.f k t259 t261 t263 ([] : List ByteArray)).bind fun t269 => (if t269.toList = a0.toList then (if a0.toList = ([] : List UInt8) then (some (0, 0, 0, ([] : List ByteArray), false)) else (some (t259, t261, t263, ([] : List ByteArray), true))) else (some (0, 0, 0, ([] : List ByteArray), false)))))) else (none))) else (none)) = some (r1, r2, r3, r4, r5) := H
   have A6 := Aside0.mk A60
   clear A60
   by_cases c7 : 1 < (t255.length : Int)
   ·rw [if_pos c7] at H
    have c7b0 : decide (1 < (t255.length : Int)) = true := decide_eq_true c7
    have c7b1 : decide (1 < t255.length) = true := decide_eq_true (by omega)
    clear c7
    replace H := Option.bind_eq_some_iff.mp H
    obtain ⟨t261, A80, H⟩ := H
    replace H : (if 2 < (t255.length : Int) then ((impl_ReadDec.f (rdOf ByteArray.empty t255 2)).bind fun t263 => (if t254 = true then ((strings_Split.f t253 (⟨#[46]⟩ : ByteArray)).bind fun t265 => ((impl_VersionText.f k t259 t261 t263 t265).bind fun t268 => (if t268.toList = a0.toList then (if a0.toList = ([] : List UInt8) then (some (0, 0, 0, ([] : List ByteArray), false)) else (some (t259, t261, t263, t265, true))) else (some (0, 0, 0, ([] : List ByteArray), false))))) else ((impl_VersionText.f k t259 t261 t263 ([] : List ByteArray)).bind fun t269 => (if t269.toList = a0.toList then (if a0.toList = ([] : List UInt8) then (some (0, 0, 0, ([] : List ByteArray), false)) else (some (t259, t261, t263, ([] : List ByteArray), true))) else (some (0, 0, 0, ([] : List ByteArray), false)))))) else (none)) = some (r1, r2, r3, r4, r5) := H
    have A8 := Aside0.mk A80
    clear A80
    by_cases c9 : 2 < (t255.length : Int)
    ·rw [if_pos c9] at H
     have c9b0 : decide (2 < (t255.length : Int)) = true := decide_eq_true c9
     have c9b1 : decide (2 < t255.length) = true := decide_eq_true (by omega)
     clear c9
     replace H := Option.bind_eq_some_iff.mp H
     obtain ⟨t263, A100, H⟩ := H
     replace H : (if t254 = true then ((strings_Split.f t253 (⟨#[46]⟩ : ByteArray)).bind fun t265 => ((impl_VersionText.f k t259 t261 t263 t265).bind fun t268 => (if t268.toList = a0.toList then (if a0.toList = ([] : List UInt8) then (some (0, 0, 0, ([] : List ByteArray), false)) else (some (t259, t261, t263, t265, true))) else (some (0, 0, 0, ([] : List ByteArray), false))))) else ((impl_VersionText.f k t259 t261 t263 ([] : List ByteArray)).bind fun t269 => (if t269.toList = a0.toList then (if a0.toList = ([] : List UInt8) then (some (0, 0, 0, ([] : List ByteArray), false)) else (some (t259, t261, t263, ([] : List ByteArray), true))) else (some (0, 0, 0, ([] : List ByteArray), false))))) = some (r1, r2, r3, r4, r5) := H
     have A10 := Aside0.mk A100
     clear A100
     have HZ_ := Aside0.mk H
     clear H
     go_enter Tryz.func31, Tryz.ntmps31
     try go_wp2_with (first | ((with_reducible refine gate_dst (N := 2) rfl ?_); refine box_event ?hg (N := 2) ?hd (cs := #[.int .i64 0, .int .i64 0, .int .i64 0, .slice none 0 0]) (t := 50) ?hr ?_; (case hd => rfl); (case hg => rfl); (case hr => first | (go_simp; done) | (go_simp; rfl)); intro gb251 hg w16 hbox hb; have n0_ := Aside0.mk (below_step zb0 hb); have n1_ := Aside0.mk (hbox); have n2_ := Aside0.mk ((by rw [hg]; exact (below_size zb0) : w.heap.size ≤ gb251)); have n3_ := Aside0.mk ((by rw [hg]; exact (below_size zb0) : w.heap.size ≤ gb251)); clear HB; have HB := n0_; have BK251 := n1_; have GW251 := n2_; have GE251 := n3_; clear n0_ n1_ n2_ n3_; clear hb hbox hg) | ((with_reducible refine gate_callee (f := 57) rfl ?_); refine goesL_ (some 11) rfl rfl Tryz.func57 zb6 rfl #[.string a0, .string (⟨#[45]⟩ : ByteArray)] rfl zb1 ?_; (with_reducible refine (strings_Cut.calls a0 (⟨#[45]⟩ : ByteArray) t252 t253 t254 _ ?side1 A2.out).mono ?_); (case side1 => exact Glob.below HGM.out zb7); rintro e w' ⟨rfl, ⟨nd, rfl⟩⟩; refine ⟨_, rfl, ?_⟩; (try (rw [drewN_self w16]; generalize hq_ : World.drewN w16 _ = w16; have n0_ : Aside0 (w16.heap[gb251]? = some (.cells #[.int .i64 0, .int .i64 0, .int .i64 0, .slice none 0 0] 50 (0, 0))) := ⟨by rw [← hq_]; exact (by (with_reducible repeat (first | refine bN_ ?_ _ | refine bD_ ?_ | refine bA_ ?_ _)); exact BK251.out)⟩; have n1_ : Aside0 (Below w.heap.size w w16) := ⟨by rw [← hq_]; exact zb7⟩; clear BK251 HB hq_; have BK251 := n0_; have HB := n1_; clear n0_ n1_))) | ((with_reducible refine gate_callee (f := 58) rfl ?_); refine goesL_ (some 16) rfl rfl Tryz.func58 zb6 rfl #[.string t252, .string (⟨#[46]⟩ : ByteArray)] rfl zb1 ?_; (with_reducible refine (strings_Split.calls t252 (⟨#[46]⟩ : ByteArray) t255 _ ?side1 A3.out).mono ?_); (case side1 => exact Glob.below HGM.out zb7); rintro e w17 ⟨v256, rfl, ho0, hb⟩; refine ⟨_, rfl, ?_⟩; have n0_ := Aside0.mk (Kd.R_lower ho0 (below_size zb7)); have n1_ := Aside0.mk (blk_below (g := gb251) (o := .cells #[.int .i64 0, .int .i64 0, .int .i64 0, .slice none 0 0] 50 (0, 0)) (by (with_reducible repeat (first | refine bN_ ?_ _ | refine bD_ ?_ | refine bA_ ?_ _)); exact BK251.out) hb); have n2_ := Aside0.mk (below_step zb7 hb); clear BK251; clear HB; have HO257 := n0_; have BK251 := n1_; have HB := n2_; clear n0_ n1_ n2_; (try clear hb); (try clear ho0); obtain ⟨Ao18, co18, eo18⟩ := Kd.R_slice HO257.out; subst eo18))
     have n0_ := Aside0.mk (Kd.R_drew HO257.out)
     have n1_ := Aside0.mk (blk_drew BK251.out)
     have n2_ := Aside0.mk (below_drew1 HB.out)
     clear HO257
     clear BK251
     clear HB
     have HO257 := n0_
     have BK251 := n1_
     have HB := n2_
     clear n0_ n1_ n2_
     have p258 : 0 ≤ (0 : Int) := (by omega)
     have q258 : 0 < (t255.length : Int) := of_decide_eq_true zb2
     obtain ⟨ad258, e258, hx258_0⟩ := Kd.at_string (Kd.R_reads' HO257.out).2.2 0 p258 q258
     cases e258
     have qi258 : (0 < t255.length) = True := eq_true (by omega)
     (try rw [show ((0 : Int)).toNat = 0 from rfl] at hx258_0)
     (try rw [Addr.add_zero'] at hx258_0)
     replace p258 := eq_true p258
     replace q258 := eq_true q258
     have p260 : 0 ≤ (1 : Int) := (by omega)
     have q260 : 1 < (t255.length : Int) := of_decide_eq_true zb2
     obtain ⟨ad260, e260, hx260_0⟩ := Kd.at_string (Kd.R_reads' HO257.out).2.2 1 p260 q260
     obtain rfl : ad258 = ad260 := (by injection e260)
     (try simp only [show (1 : Int).toNat = 1 from rfl, Nat.reduceMul, Nat.reduceEqDiff, Go.Addr.add, ↓reduceIte] at hx260_0)
     have qi260 : (1 < t255.length) = True := eq_true (by omega)
     (try rw [show ((1 : Int)).toNat = 1 from rfl] at hx260_0)
     replace p260 := eq_true p260
     replace q260 := eq_true q260
     have p262 : 0 ≤ (2 : Int) := (by omega)
     have q262 : 2 < (t255.length : Int) := of_decide_eq_true zb2
     obtain ⟨ad262, e262, hx262_0⟩ := Kd.at_string (Kd.R_reads' HO257.out).2.2 2 p262 q262
     obtain rfl : ad258 = ad262 := (by injection e262)
     (try simp only [show (2 : Int).toNat = 2 from rfl, Nat.reduceMul, Nat.reduceEqDiff, Go.Addr.add, ↓reduceIte] at hx262_0)
     have qi262 : (2 < t255.length) = True := eq_true (by omega)
     (try rw [show ((2 : Int)).toNat = 2 from rfl] at hx262_0)
     replace p262 := eq_true p262
     replace q262 := eq_true q262
     refine start_ (n := 15) (S := fun w' => w'.cell? ad258 = some (.string (rdOf ByteArray.empty t255 0)) ∧ w'.cell? ⟨ad258.block, ad258.off + 1, none⟩ = some (.string (rdOf ByteArray.empty t255 1)) ∧ w'.cell? ⟨ad258.block, ad258.off + 2, none⟩ = some (.string (rdOf ByteArray.empty t255 2))) (ds := []) #[false, false, false, false, false, false, false, false, false, false, false, false, false, false, false] zb6 rfl rfl ⟨hx258_0, hx260_0, hx262_0⟩ (fun hHeld => ?_); refine with_tabW impl_ReadVersion.tab5 impl_ReadVersion.bits5 (fun HT_ HW_ => ?_)
     generalize w17.drew = w19 at HO257 BK251 HB hx258_0 hx260_0 hx262_0 hHeld ⊢
     refine pure_ (i := 0) (N := some 21) (v := ?_) (a' := ?_) #[true, false, false, false, false, false, false, false, false, false, false, false, false, false, false] rfl rfl (any_of HT_.out zb6) (fun _ _ _ h => h) (Or.inl ⟨by rfl, ?_⟩) ?_ ?_
     rotate_left
     ·exact zs2
     rotate_left
     ·exact zs0
     refine pure_ (i := 1) (N := some 22) (v := ?_) (a' := ?_) #[true, true, false, false, false, false, false, false, false, false, false, false, false, false, false] rfl rfl (any_of HT_.out zb6) (fun _ _ _ h => h) (Or.inl ⟨by rfl, ?_⟩) ?_ ?_
     rotate_left
     ·exact zs2
     rotate_left
     ·exact zs0
     refine pure_ (i := 4) (N := some 25) (v := ?_) (a' := ?_) #[true, true, false, false, true, false, false, false, false, false, false, false, false, false, false] rfl rfl (any_of HT_.out zb6) (fun _ _ _ h => h) (Or.inl ⟨by rfl, ?_⟩) ?_ ?_
     rotate_left
     ·exact zs2
     rotate_left
     ·exact zs0
     refine pure_ (i := 5) (N := some 26) (v := ?_) (a' := ?_) #[true, true, false, false, true, true, false, false, false, false, false, false, false, false, false] rfl rfl (any_of HT_.out zb6) (fun _ _ _ h => h) (Or.inl ⟨by rfl, ?_⟩) ?_ ?_
     rotate_left
     ·exact zs2
     rotate_left
     ·exact zs0
     refine pure_ (i := 8) (N := some 29) (v := ?_) (a' := ?_) #[true, true, false, false, true, true, false, false, true, false, false, false, false, false, false] rfl rfl (any_of HT_.out zb6) (fun _ _ _ h => h) (Or.inl ⟨by rfl, ?_⟩) ?_ ?_
     rotate_left
     ·exact zs2
     rotate_left
     ·exact zs0
     refine pure_ (i := 9) (N := some 30) (v := ?_) (a' := ?_) #[true, true, false, false, true, true, false, false, true, true, false, false, false, false, false] rfl rfl (any_of HT_.out zb6) (fun _ _ _ h => h) (Or.inl ⟨by rfl, ?_⟩) ?_ ?_
     rotate_left
     ·exact zs2
     rotate_left
     ·exact zs0
     refine take_ (i := 2) (N := some 23) (v := ?_) (a' := ?_) #[true, true, true, false, true, true, false, false, true, true, false, false, false, false, false] rfl rfl (take_ofW HT_.out HW_.out zb6) (fun _ _ _ h => h) (Or.inl ⟨by rfl, ?_⟩) hHeld ?_ ?_
     rotate_left
     ·rintro w' ⟨s0, s1, s2⟩
      go_simp
      with_reducible rfl
     rotate_left
     ·exact zs0
     refine take_ (i := 6) (N := some 27) (v := ?_) (a' := ?_) #[true, true, true, false, true, true, true, false, true, true, false, false, false, false, false] rfl rfl (take_ofW HT_.out HW_.out zb6) (fun _ _ _ h => h) (Or.inl ⟨by rfl, ?_⟩) hHeld ?_ ?_
     rotate_left
     ·rintro w' ⟨s0, s1, s2⟩
      go_simp
      with_reducible rfl
     rotate_left
     ·exact zs0
     refine take_ (i := 10) (N := some 31) (v := ?_) (a' := ?_) #[true, true, true, false, true, true, true, false, true, true, true, false, false, false, false] rfl rfl (take_ofW HT_.out HW_.out zb6) (fun _ _ _ h => h) (Or.inl ⟨by rfl, ?_⟩) hHeld ?_ ?_
     rotate_left
     ·rintro w' ⟨s0, s1, s2⟩
      go_simp
      with_reducible rfl
     rotate_left
     ·exact zs0
     refine join_ (σ := Nat) 1 #[true, true, true, true, true, true, true, true, true, true, true, true, true, true, false] (fun s_ => [(24, .int .i64 t259), (28, .int .i64 t261), (32, .int .i64 t263), (8, .pointer (some ⟨s_, 0, none⟩)), (33, .agg #[.int .i64 t259, .int .i64 t261, .int .i64 t263, .slice none 0 0])]) (fun s_ w' => (w'.cell? ad258 = some (.string (rdOf ByteArray.empty t255 0)) ∧ w'.cell? ⟨ad258.block, ad258.off + 1, none⟩ = some (.string (rdOf ByteArray.empty t255 1)) ∧ w'.cell? ⟨ad258.block, ad258.off + 2, none⟩ = some (.string (rdOf ByteArray.empty t255 2))) ∧ (Kd.R Kd.string 9 w' w.heap.size (fun _ => True) (.slice (some ad258) t255.length co18) t255) ∧ (w'.heap[gb251]? = some (.cells #[.int .i64 0, .int .i64 0, .int .i64 0, .slice none 0 0] 50 (0, 0))) ∧ (w'.heap[s_]? = some (.cells #[.int .i64 0, .int .i64 0, .int .i64 0, .slice none 0 0] 50 (0, 0))) ∧ (w.heap.size ≤ s_) ∧ (w.heap.size ≤ s_) ∧ (gb251 ≠ s_) ∧ (s_ ≠ gb251) ∧ (Below w.heap.size w w')) ?_ ?_
     rotate_left
     ·intro hCont
      refine two_ (i := 3) (j := 13) (Ni := some 24) (Nj := some 8) #[true, true, true, true, true, true, true, false, true, true, true, false, false, false, false] #[true, true, true, false, true, true, true, false, true, true, true, false, false, true, false] rfl rfl rfl rfl (two_of HT_.out zb6) (by decide) (by decide) (fun K hK => ?_) (fun K hK => ?_)
      ·skip
       refine goes_ Tryz.func59 zb6 rfl #[.string (rdOf ByteArray.empty t255 0)] (by rfl) rfl rfl zb1 ?_
       with_reducible refine (impl_ReadDec.calls (rdOf ByteArray.empty t255 0) t259 _ ?side1 ?side2 A6.out).mono ?_
       (case side1 => exact Glob.below HGE.out zb7)
       (case side2 => exact Glob.below HGT.out zb7)
       rintro e w20 ⟨rfl, hb⟩
       have HS0_ := (hb.cell (World.block_lt_of_cell? _ _ (hHeld.1))).trans (hHeld.1)
       have HS1_ := (hb.cell (World.block_lt_of_cell? _ _ (hHeld.2.1))).trans (hHeld.2.1)
       have HS2_ := (hb.cell (World.block_lt_of_cell? _ _ (hHeld.2.2))).trans (hHeld.2.2)
       refine ⟨_, rfl, ?_⟩
       have n0_ := Aside0.mk (Kd.R_below (by (with_reducible repeat (first | apply Kd.R_alloc | apply Kd.R_drewN | apply Kd.R_drew)); exact HO257.out) hb)
       have n1_ := Aside0.mk (blk_below (g := gb251) (o := .cells #[.int .i64 0, .int .i64 0, .int .i64 0, .slice none 0 0] 50 (0, 0)) (by (with_reducible repeat (first | refine bN_ ?_ _ | refine bD_ ?_ | refine bA_ ?_ _)); exact BK251.out) hb)
       have n2_ := Aside0.mk (below_step zb7 hb)
       clear HO257
       clear BK251
       clear HB
       have HO257 := n0_
       have BK251 := n1_
       have HB := n2_
       clear n0_ n1_ n2_
       (try clear hb)
       refine hK.out _ _ ⟨HS0_, HS1_, HS2_⟩ (fun hHeld => ?_)
       clear hK K
       refine norm_ (a' := ?_) ?_ ?_
       rotate_left
       ·show Act.put _ (some 24) _ = _
        simp only [Act.put, List.setIfInBounds_toArray, List.set_cons_zero, List.set_cons_succ, i64_w, i32_w]
        rfl
       refine two_ (i := 7) (j := 13) (Ni := some 28) (Nj := some 8) #[true, true, true, true, true, true, true, true, true, true, true, false, false, false, false] #[true, true, true, true, true, true, true, false, true, true, true, false, false, true, false] rfl rfl rfl rfl (two_of HT_.out zb6) (by decide) (by decide) (fun K hK => ?_) (fun K hK => ?_)
       ·skip
        refine goes_ Tryz.func59 zb6 rfl #[.string (rdOf ByteArray.empty t255 1)] (by rfl) rfl rfl zb1 ?_
        with_reducible refine (impl_ReadDec.calls (rdOf ByteArray.empty t255 1) t261 _ ?side1 ?side2 A8.out).mono ?_
        (case side1 => exact Glob.below HGE.out zb7)
        (case side2 => exact Glob.below HGT.out zb7)
        rintro e w21 ⟨rfl, hb⟩
        have HS0_ := (hb.cell (World.block_lt_of_cell? _ _ (hHeld.1))).trans (hHeld.1)
        have HS1_ := (hb.cell (World.block_lt_of_cell? _ _ (hHeld.2.1))).trans (hHeld.2.1)
        have HS2_ := (hb.cell (World.block_lt_of_cell? _ _ (hHeld.2.2))).trans (hHeld.2.2)
        refine ⟨_, rfl, ?_⟩
        have n0_ := Aside0.mk (Kd.R_below (by (with_reducible repeat (first | apply Kd.R_alloc | apply Kd.R_drewN | apply Kd.R_drew)); exact HO257.out) hb)
        have n1_ := Aside0.mk (blk_below (g := gb251) (o := .cells #[.int .i64 0, .int .i64 0, .int .i64 0, .slice none 0 0] 50 (0, 0)) (by (with_reducible repeat (first | refine bN_ ?_ _ | refine bD_ ?_ | refine bA_ ?_ _)); exact BK251.out) hb)
        have n2_ := Aside0.mk (below_step zb7 hb)
        clear HO257
        clear BK251
        clear HB
        have HO257 := n0_
        have BK251 := n1_
        have HB := n2_
        clear n0_ n1_ n2_
        (try clear hb)
        refine hK.out _ _ ⟨HS0_, HS1_, HS2_⟩ (fun hHeld => ?_)
        clear hK K
        refine norm_ (a' := ?_) ?_ ?_
        rotate_left
        ·show Act.put _ (some 28) _ = _
         simp only [Act.put, List.setIfInBounds_toArray, List.set_cons_zero, List.set_cons_succ, i64_w, i32_w]
         rfl
        refine two_ (i := 11) (j := 13) (Ni := some 32) (Nj := some 8) #[true, true, true, true, true, true, true, true, true, true, true, true, false, false, false] #[true, true, true, true, true, true, true, true, true, true, true, false, false, true, false] rfl rfl rfl rfl (two_of HT_.out zb6) (by decide) (by decide) (fun K hK => ?_) (fun K hK => ?_)
        ·skip
         refine goes_ Tryz.func59 zb6 rfl #[.string (rdOf ByteArray.empty t255 2)] (by rfl) rfl rfl zb1 ?_
         with_reducible refine (impl_ReadDec.calls (rdOf ByteArray.empty t255 2) t263 _ ?side1 ?side2 A10.out).mono ?_
         (case side1 => exact Glob.below HGE.out zb7)
         (case side2 => exact Glob.below HGT.out zb7)
         rintro e w22 ⟨rfl, hb⟩
         have HS0_ := (hb.cell (World.block_lt_of_cell? _ _ (hHeld.1))).trans (hHeld.1)
         have HS1_ := (hb.cell (World.block_lt_of_cell? _ _ (hHeld.2.1))).trans (hHeld.2.1)
         have HS2_ := (hb.cell (World.block_lt_of_cell? _ _ (hHeld.2.2))).trans (hHeld.2.2)
         refine ⟨_, rfl, ?_⟩
         have n0_ := Aside0.mk (Kd.R_below (by (with_reducible repeat (first | apply Kd.R_alloc | apply Kd.R_drewN | apply Kd.R_drew)); exact HO257.out) hb)
         have n1_ := Aside0.mk (blk_below (g := gb251) (o := .cells #[.int .i64 0, .int .i64 0, .int .i64 0, .slice none 0 0] 50 (0, 0)) (by (with_reducible repeat (first | refine bN_ ?_ _ | refine bD_ ?_ | refine bA_ ?_ _)); exact BK251.out) hb)
         have n2_ := Aside0.mk (below_step zb7 hb)
         clear HO257
         clear BK251
         clear HB
         have HO257 := n0_
         have BK251 := n1_
         have HB := n2_
         clear n0_ n1_ n2_
         (try clear hb)
         refine hK.out _ _ ⟨HS0_, HS1_, HS2_⟩ (fun hHeld => ?_)
         clear hK K
         refine norm_ (a' := ?_) ?_ ?_
         rotate_left
         ·show Act.put _ (some 32) _ = _
          simp only [Act.put, List.setIfInBounds_toArray, List.set_cons_zero, List.set_cons_succ, i64_w, i32_w]
          rfl
         refine pure_ (i := 12) (N := some 33) (v := ?_) (a' := ?_) #[true, true, true, true, true, true, true, true, true, true, true, true, true, false, false] rfl rfl (any_of HT_.out zb6) (fun _ _ _ h => h) (Or.inl ⟨by rfl, ?_⟩) ?_ ?_
         rotate_left
         ·exact zs2
         rotate_left
         ·exact zs0
         refine one_ (i := 13) (N := some 8) #[true, true, true, true, true, true, true, true, true, true, true, true, true, true, false] rfl rfl (one_of HT_.out zb6) (by decide) (fun K hK => ?_)
         refine box_step ?hg (N := 8) ?hd (cs := #[.int .i64 0, .int .i64 0, .int .i64 0, .slice none 0 0]) (t := 50) ?hr ?_; (case hd => rfl); (case hg => rfl); (case hr => first | (go_simp; done) | (go_simp; rfl))
         intro gb264 hg w23 hbox hb
         have HS0_ := (hb.cell (World.block_lt_of_cell? _ _ (hHeld.1))).trans (hHeld.1)
         have HS1_ := (hb.cell (World.block_lt_of_cell? _ _ (hHeld.2.1))).trans (hHeld.2.1)
         have HS2_ := (hb.cell (World.block_lt_of_cell? _ _ (hHeld.2.2))).trans (hHeld.2.2)
         have n0_ := Aside0.mk (Kd.R_below (by (with_reducible repeat (first | apply Kd.R_alloc | apply Kd.R_drewN | apply Kd.R_drew)); exact HO257.out) hb)
         have n1_ := Aside0.mk (blk_below (g := gb251) (o := .cells #[.int .i64 0, .int .i64 0, .int .i64 0, .slice none 0 0] 50 (0, 0)) (by (with_reducible repeat (first | refine bN_ ?_ _ | refine bD_ ?_ | refine bA_ ?_ _)); exact BK251.out) hb)
         have n2_ := Aside0.mk (below_step zb7 hb)
         have n3_ := Aside0.mk (hbox)
         have n4_ := Aside0.mk ((by rw [hg]; exact (below_size zb7) : w.heap.size ≤ gb264))
         have n5_ := Aside0.mk ((by rw [hg]; exact (below_size zb7) : w.heap.size ≤ gb264))
         have n6_ := Aside0.mk ((by rw [hg]; exact Nat.ne_of_lt (blk_lt (g := gb251) (o := .cells #[.int .i64 0, .int .i64 0, .int .i64 0, .slice none 0 0] 50 (0, 0)) (by (with_reducible repeat (first | refine bN_ ?_ _ | refine bD_ ?_ | refine bA_ ?_ _)); exact BK251.out)) : gb251 ≠ gb264))
         have n7_ := Aside0.mk ((by rw [hg]; exact Nat.ne_of_gt (blk_lt (g := gb251) (o := .cells #[.int .i64 0, .int .i64 0, .int .i64 0, .slice none 0 0] 50 (0, 0)) (by (with_reducible repeat (first | refine bN_ ?_ _ | refine bD_ ?_ | refine bA_ ?_ _)); exact BK251.out)) : gb264 ≠ gb251))
         clear HO257
         clear BK251
         clear HB
         have HO257 := n0_
         have BK251 := n1_
         have HB := n2_
         have BK264 := n3_
         have GW264 := n4_
         have GE264 := n5_
         have NB251_264 := n6_
         have NB264_251 := n7_
         clear n0_ n1_ n2_ n3_ n4_ n5_ n6_ n7_
         clear hb hbox hg
         refine hK.out _ _ ⟨HS0_, HS1_, HS2_⟩ (fun hHeld => ?_)
         clear hK K
         refine norm_ (a' := ?_) ?_ ?_
         rotate_left
         ·show Act.put _ (some 8) _ = _
          simp only [Act.put, List.setIfInBounds_toArray, List.set_cons_zero, List.set_cons_succ, i64_w, i32_w]
          rfl
         exact norm_ (by simp only [putAll, Act.put, List.setIfInBounds_toArray, List.set_cons_zero, List.set_cons_succ]) (hCont (gb264) _ ⟨hHeld, (by (with_reducible repeat (first | apply Kd.R_alloc | apply Kd.R_drewN | apply Kd.R_drew)); exact HO257.out), (by (with_reducible repeat (first | refine bN_ ?_ _ | refine bD_ ?_ | refine bA_ ?_ _)); exact BK251.out), (by (with_reducible repeat (first | refine bN_ ?_ _ | refine bD_ ?_ | refine bA_ ?_ _)); exact BK264.out), GW264.out, GE264.out, NB251_264.out, NB264_251.out, zb4⟩)
        ·skip
         refine box_step ?hg (N := 8) ?hd (cs := #[.int .i64 0, .int .i64 0, .int .i64 0, .slice none 0 0]) (t := 50) ?hr ?_; (case hd => rfl); (case hg => rfl); (case hr => first | (go_simp; done) | (go_simp; rfl))
         intro gb264 hg w22 hbox hb
         have HS0_ := (hb.cell (World.block_lt_of_cell? _ _ (hHeld.1))).trans (hHeld.1)
         have HS1_ := (hb.cell (World.block_lt_of_cell? _ _ (hHeld.2.1))).trans (hHeld.2.1)
         have HS2_ := (hb.cell (World.block_lt_of_cell? _ _ (hHeld.2.2))).trans (hHeld.2.2)
         have n0_ := Aside0.mk (Kd.R_below (by (with_reducible repeat (first | apply Kd.R_alloc | apply Kd.R_drewN | apply Kd.R_drew)); exact HO257.out) hb)
         have n1_ := Aside0.mk (blk_below (g := gb251) (o := .cells #[.int .i64 0, .int .i64 0, .int .i64 0, .slice none 0 0] 50 (0, 0)) (by (with_reducible repeat (first | refine bN_ ?_ _ | refine bD_ ?_ | refine bA_ ?_ _)); exact BK251.out) hb)
         have n2_ := Aside0.mk (below_step zb7 hb)
         have n3_ := Aside0.mk (hbox)
         have n4_ := Aside0.mk ((by rw [hg]; exact (below_size zb7) : w.heap.size ≤ gb264))
         have n5_ := Aside0.mk ((by rw [hg]; exact (below_size zb7) : w.heap.size ≤ gb264))
         have n6_ := Aside0.mk ((by rw [hg]; exact Nat.ne_of_lt (blk_lt (g := gb251) (o := .cells #[.int .i64 0, .int .i64 0, .int .i64 0, .slice none 0 0] 50 (0, 0)) (by (with_reducible repeat (first | refine bN_ ?_ _ | refine bD_ ?_ | refine bA_ ?_ _)); exact BK251.out)) : gb251 ≠ gb264))
         have n7_ := Aside0.mk ((by rw [hg]; exact Nat.ne_of_gt (blk_lt (g := gb251) (o := .cells #[.int .i64 0, .int .i64 0, .int .i64 0, .slice none 0 0] 50 (0, 0)) (by (with_reducible repeat (first | refine bN_ ?_ _ | refine bD_ ?_ | refine bA_ ?_ _)); exact BK251.out)) : gb264 ≠ gb251))
         clear HO257
         clear BK251
         clear HB
         have HO257 := n0_
         have BK251 := n1_
         have HB := n2_
         have BK264 := n3_
         have GW264 := n4_
         have GE264 := n5_
         have NB251_264 := n6_
         have NB264_251 := n7_
         clear n0_ n1_ n2_ n3_ n4_ n5_ n6_ n7_
         clear hb hbox hg
         refine hK.out _ _ ⟨HS0_, HS1_, HS2_⟩ (fun hHeld => ?_)
         clear hK K
         refine norm_ (a' := ?_) ?_ ?_
         rotate_left
         ·show Act.put _ (some 8) _ = _
          simp only [Act.put, List.setIfInBounds_toArray, List.set_cons_zero, List.set_cons_succ, i64_w, i32_w]
          rfl
         refine one_ (i := 11) (N := some 32) #[true, true, true, true, true, true, true, true, true, true, true, true, false, true, false] rfl rfl (one_of HT_.out zb6) (by decide) (fun K hK => ?_)
         refine goes_ Tryz.func59 zb6 rfl #[.string (rdOf ByteArray.empty t255 2)] (by rfl) rfl rfl zb1 ?_
         with_reducible refine (impl_ReadDec.calls (rdOf ByteArray.empty t255 2) t263 _ ?side1 ?side2 A10.out).mono ?_
         (case side1 => exact Glob.below HGE.out zb4)
         (case side2 => exact Glob.below HGT.out zb4)
         rintro e w23 ⟨rfl, hb⟩
         have HS0_ := (hb.cell (World.block_lt_of_cell? _ _ (hHeld.1))).trans (hHeld.1)
         have HS1_ := (hb.cell (World.block_lt_of_cell? _ _ (hHeld.2.1))).trans (hHeld.2.1)
         have HS2_ := (hb.cell (World.block_lt_of_cell? _ _ (hHeld.2.2))).trans (hHeld.2.2)
         refine ⟨_, rfl, ?_⟩
         have n0_ := Aside0.mk (Kd.R_below (by (with_reducible repeat (first | apply Kd.R_alloc | apply Kd.R_drewN | apply Kd.R_drew)); exact HO257.out) hb)
         have n1_ := Aside0.mk (blk_below (g := gb251) (o := .cells #[.int .i64 0, .int .i64 0, .int .i64 0, .slice none 0 0] 50 (0, 0)) (by (with_reducible repeat (first | refine bN_ ?_ _ | refine bD_ ?_ | refine bA_ ?_ _)); exact BK251.out) hb)
         have n2_ := Aside0.mk (blk_below (g := gb264) (o := .cells #[.int .i64 0, .int .i64 0, .int .i64 0, .slice none 0 0] 50 (0, 0)) (by (with_reducible repeat (first | refine bN_ ?_ _ | refine bD_ ?_ | refine bA_ ?_ _)); exact BK264.out) hb)
         have n3_ := Aside0.mk (below_step zb4 hb)
         clear HO257
         clear BK251
         clear BK264
         clear HB
         have HO257 := n0_
         have BK251 := n1_
         have BK264 := n2_
         have HB := n3_
         clear n0_ n1_ n2_ n3_
         (try clear hb)
         refine hK.out _ _ ⟨HS0_, HS1_, HS2_⟩ (fun hHeld => ?_)
         clear hK K
         refine norm_ (a' := ?_) ?_ ?_
         rotate_left
         ·show Act.put _ (some 32) _ = _
          simp only [Act.put, List.setIfInBounds_toArray, List.set_cons_zero, List.set_cons_succ, i64_w, i32_w]
          rfl
         refine pure_ (i := 12) (N := some 33) (v := ?_) (a' := ?_) #[true, true, true, true, true, true, true, true, true, true, true, true, true, true, false] rfl rfl (any_of HT_.out zb6) (fun _ _ _ h => h) (Or.inl ⟨by rfl, ?_⟩) ?_ ?_
         rotate_left
         ·exact zs2
         rotate_left
         ·exact zs0
         exact norm_ (by simp only [putAll, Act.put, List.setIfInBounds_toArray, List.set_cons_zero, List.set_cons_succ]) (hCont (gb264) _ ⟨hHeld, (by (with_reducible repeat (first | apply Kd.R_alloc | apply Kd.R_drewN | apply Kd.R_drew)); exact HO257.out), (by (with_reducible repeat (first | refine bN_ ?_ _ | refine bD_ ?_ | refine bA_ ?_ _)); exact BK251.out), (by (with_reducible repeat (first | refine bN_ ?_ _ | refine bD_ ?_ | refine bA_ ?_ _)); exact BK264.out), GW264.out, GE264.out, NB251_264.out, NB264_251.out, zb4⟩)
       ·skip
        refine box_step ?hg (N := 8) ?hd (cs := #[.int .i64 0, .int .i64 0, .int .i64 0, .slice none 0 0]) (t := 50) ?hr ?_; (case hd => rfl); (case hg => rfl); (case hr => first | (go_simp; done) | (go_simp; rfl))
        intro gb264 hg w21 hbox hb
        have HS0_ := (hb.cell (World.block_lt_of_cell? _ _ (hHeld.1))).trans (hHeld.1)
        have HS1_ := (hb.cell (World.block_lt_of_cell? _ _ (hHeld.2.1))).trans (hHeld.2.1)
        have HS2_ := (hb.cell (World.block_lt_of_cell? _ _ (hHeld.2.2))).trans (hHeld.2.2)
        have n0_ := Aside0.mk (Kd.R_below (by (with_reducible repeat (first | apply Kd.R_alloc | apply Kd.R_drewN | apply Kd.R_drew)); exact HO257.out) hb)
        have n1_ := Aside0.mk (blk_below (g := gb251) (o := .cells #[.int .i64 0, .int .i64 0, .int .i64 0, .slice none 0 0] 50 (0, 0)) (by (with_reducible repeat (first | refine bN_ ?_ _ | refine bD_ ?_ | refine bA_ ?_ _)); exact BK251.out) hb)
        have n2_ := Aside0.mk (below_step zb7 hb)
        have n3_ := Aside0.mk (hbox)
        have n4_ := Aside0.mk ((by rw [hg]; exact (below_size zb7) : w.heap.size ≤ gb264))
        have n5_ := Aside0.mk ((by rw [hg]; exact (below_size zb7) : w.heap.size ≤ gb264))
        have n6_ := Aside0.mk ((by rw [hg]; exact Nat.ne_of_lt (blk_lt (g := gb251) (o := .cells #[.int .i64 0, .int .i64 0, .int .i64 0, .slice none 0 0] 50 (0, 0)) (by (with_reducible repeat (first | refine bN_ ?_ _ | refine bD_ ?_ | refine bA_ ?_ _)); exact BK251.out)) : gb251 ≠ gb264))
        have n7_ := Aside0.mk ((by rw [hg]; exact Nat.ne_of_gt (blk_lt (g := gb251) (o := .cells #[.int .i64 0, .int .i64 0, .int .i64 0, .slice none 0 0] 50 (0, 0)) (by (with_reducible repeat (first | refine bN_ ?_ _ | refine bD_ ?_ | refine bA_ ?_ _)); exact BK251.out)) : gb264 ≠ gb251))
        clear HO257
        clear BK251
        clear HB
        have HO257 := n0_
        have BK251 := n1_
        have HB := n2_
        have BK264 := n3_
        have GW264 := n4_
        have GE264 := n5_
        have NB251_264 := n6_
        have NB264_251 := n7_
        clear n0_ n1_ n2_ n3_ n4_ n5_ n6_ n7_
        clear hb hbox hg
        refine hK.out _ _ ⟨HS0_, HS1_, HS2_⟩ (fun hHeld => ?_)
        clear hK K
        refine norm_ (a' := ?_) ?_ ?_
        rotate_left
        ·show Act.put _ (some 8) _ = _
         simp only [Act.put, List.setIfInBounds_toArray, List.set_cons_zero, List.set_cons_succ, i64_w, i32_w]
         rfl
        refine one_ (i := 7) (N := some 28) #[true, true, true, true, true, true, true, true, true, true, true, false, false, true, false] rfl rfl (one_of HT_.out zb6) (by decide) (fun K hK => ?_)
        refine goes_ Tryz.func59 zb6 rfl #[.string (rdOf ByteArray.empty t255 1)] (by rfl) rfl rfl zb1 ?_
        with_reducible refine (impl_ReadDec.calls (rdOf ByteArray.empty t255 1) t261 _ ?side1 ?side2 A8.out).mono ?_
        (case side1 => exact Glob.below HGE.out zb4)
        (case side2 => exact Glob.below HGT.out zb4)
        rintro e w22 ⟨rfl, hb⟩
        have HS0_ := (hb.cell (World.block_lt_of_cell? _ _ (hHeld.1))).trans (hHeld.1)
        have HS1_ := (hb.cell (World.block_lt_of_cell? _ _ (hHeld.2.1))).trans (hHeld.2.1)
        have HS2_ := (hb.cell (World.block_lt_of_cell? _ _ (hHeld.2.2))).trans (hHeld.2.2)
        refine ⟨_, rfl, ?_⟩
        have n0_ := Aside0.mk (Kd.R_below (by (with_reducible repeat (first | apply Kd.R_alloc | apply Kd.R_drewN | apply Kd.R_drew)); exact HO257.out) hb)
        have n1_ := Aside0.mk (blk_below (g := gb251) (o := .cells #[.int .i64 0, .int .i64 0, .int .i64 0, .slice none 0 0] 50 (0, 0)) (by (with_reducible repeat (first | refine bN_ ?_ _ | refine bD_ ?_ | refine bA_ ?_ _)); exact BK251.out) hb)
        have n2_ := Aside0.mk (blk_below (g := gb264) (o := .cells #[.int .i64 0, .int .i64 0, .int .i64 0, .slice none 0 0] 50 (0, 0)) (by (with_reducible repeat (first | refine bN_ ?_ _ | refine bD_ ?_ | refine bA_ ?_ _)); exact BK264.out) hb)
        have n3_ := Aside0.mk (below_step zb4 hb)
        clear HO257
        clear BK251
        clear BK264
        clear HB
        have HO257 := n0_
        have BK251 := n1_
        have BK264 := n2_
        have HB := n3_
        clear n0_ n1_ n2_ n3_
        (try clear hb)
        refine hK.out _ _ ⟨HS0_, HS1_, HS2_⟩ (fun hHeld => ?_)
        clear hK K
        refine norm_ (a' := ?_) ?_ ?_
        rotate_left
        ·show Act.put _ (some 28) _ = _
         simp only [Act.put, List.setIfInBounds_toArray, List.set_cons_zero, List.set_cons_succ, i64_w, i32_w]
         rfl
        refine one_ (i := 11) (N := some 32) #[true, true, true, true, true, true, true, true, true, true, true, true, false, true, false] rfl rfl (one_of HT_.out zb6) (by decide) (fun K hK => ?_)
        refine goes_ Tryz.func59 zb6 rfl #[.string (rdOf ByteArray.empty t255 2)] (by rfl) rfl rfl zb1 ?_
        with_reducible refine (impl_ReadDec.calls (rdOf ByteArray.empty t255 2) t263 _ ?side1 ?side2 A10.out).mono ?_
        (case side1 => exact Glob.below HGE.out zb4)
        (case side2 => exact Glob.below HGT.out zb4)
        rintro e w23 ⟨rfl, hb⟩
        have HS0_ := (hb.cell (World.block_lt_of_cell? _ _ (hHeld.1))).trans (hHeld.1)
        have HS1_ := (hb.cell (World.block_lt_of_cell? _ _ (hHeld.2.1))).trans (hHeld.2.1)
        have HS2_ := (hb.cell (World.block_lt_of_cell? _ _ (hHeld.2.2))).trans (hHeld.2.2)
        refine ⟨_, rfl, ?_⟩
        have n0_ := Aside0.mk (Kd.R_below (by (with_reducible repeat (first | apply Kd.R_alloc | apply Kd.R_drewN | apply Kd.R_drew)); exact HO257.out) hb)
        have n1_ := Aside0.mk (blk_below (g := gb251) (o := .cells #[.int .i64 0, .int .i64 0, .int .i64 0, .slice none 0 0] 50 (0, 0)) (by (with_reducible repeat (first | refine bN_ ?_ _ | refine bD_ ?_ | refine bA_ ?_ _)); exact BK251.out) hb)
        have n2_ := Aside0.mk (blk_below (g := gb264) (o := .cells #[.int .i64 0, .int .i64 0, .int .i64 0, .slice none 0 0] 50 (0, 0)) (by (with_reducible repeat (first | refine bN_ ?_ _ | refine bD_ ?_ | refine bA_ ?_ _)); exact BK264.out) hb)
        have n3_ := Aside0.mk (below_step zb4 hb)
        clear HO257
        clear BK251
        clear BK264
        clear HB
        have HO257 := n0_
        have BK251 := n1_
        have BK264 := n2_
        have HB := n3_
        clear n0_ n1_ n2_ n3_
        (try clear hb)
        refine hK.out _ _ ⟨HS0_, HS1_, HS2_⟩ (fun hHeld => ?_)
        clear hK K
        refine norm_ (a' := ?_) ?_ ?_
        rotate_left
        ·show Act.put _ (some 32) _ = _
         simp only [Act.put, List.setIfInBounds_toArray, List.set_cons_zero, List.set_cons_succ, i64_w, i32_w]
         rfl
        refine pure_ (i := 12) (N := some 33) (v := ?_) (a' := ?_) #[true, true, true, true, true, true, true, true, true, true, true, true, true, true, false] rfl rfl (any_of HT_.out zb6) (fun _ _ _ h => h) (Or.inl ⟨by rfl, ?_⟩) ?_ ?_
        rotate_left
        ·exact zs2
        rotate_left
        ·exact zs0
        exact norm_ (by simp only [putAll, Act.put, List.setIfInBounds_toArray, List.set_cons_zero, List.set_cons_succ]) (hCont (gb264) _ ⟨hHeld, (by (with_reducible repeat (first | apply Kd.R_alloc | apply Kd.R_drewN | apply Kd.R_drew)); exact HO257.out), (by (with_reducible repeat (first | refine bN_ ?_ _ | refine bD_ ?_ | refine bA_ ?_ _)); exact BK251.out), (by (with_reducible repeat (first | refine bN_ ?_ _ | refine bD_ ?_ | refine bA_ ?_ _)); exact BK264.out), GW264.out, GE264.out, NB251_264.out, NB264_251.out, zb4⟩)
      ·skip
       refine box_step ?hg (N := 8) ?hd (cs := #[.int .i64 0, .int .i64 0, .int .i64 0, .slice none 0 0]) (t := 50) ?hr ?_; (case hd => rfl); (case hg => rfl); (case hr => first | (go_simp; done) | (go_simp; rfl))
       intro gb264 hg w20 hbox hb
       have HS0_ := (hb.cell (World.block_lt_of_cell? _ _ (hHeld.1))).trans (hHeld.1)
       have HS1_ := (hb.cell (World.block_lt_of_cell? _ _ (hHeld.2.1))).trans (hHeld.2.1)
       have HS2_ := (hb.cell (World.block_lt_of_cell? _ _ (hHeld.2.2))).trans (hHeld.2.2)
       have n0_ := Aside0.mk (Kd.R_below (by (with_reducible repeat (first | apply Kd.R_alloc | apply Kd.R_drewN | apply Kd.R_drew)); exact HO257.out) hb)
       have n1_ := Aside0.mk (blk_below (g := gb251) (o := .cells #[.int .i64 0, .int .i64 0, .int .i64 0, .slice none 0 0] 50 (0, 0)) (by (with_reducible repeat (first | refine bN_ ?_ _ | refine bD_ ?_ | refine bA_ ?_ _)); exact BK251.out) hb)
       have n2_ := Aside0.mk (below_step zb7 hb)
       have n3_ := Aside0.mk (hbox)
       have n4_ := Aside0.mk ((by rw [hg]; exact (below_size zb7) : w.heap.size ≤ gb264))
       have n5_ := Aside0.mk ((by rw [hg]; exact (below_size zb7) : w.heap.size ≤ gb264))
       have n6_ := Aside0.mk ((by rw [hg]; exact Nat.ne_of_lt (blk_lt (g := gb251) (o := .cells #[.int .i64 0, .int .i64 0, .int .i64 0, .slice none 0 0] 50 (0, 0)) (by (with_reducible repeat (first | refine bN_ ?_ _ | refine bD_ ?_ | refine bA_ ?_ _)); exact BK251.out)) : gb251 ≠ gb264))
       have n7_ := Aside0.mk ((by rw [hg]; exact Nat.ne_of_gt (blk_lt (g := gb251) (o := .cells #[.int .i64 0, .int .i64 0, .int .i64 0, .slice none 0 0] 50 (0, 0)) (by (with_reducible repeat (first | refine bN_ ?_ _ | refine bD_ ?_ | refine bA_ ?_ _)); exact BK251.out)) : gb264 ≠ gb251))
       clear HO257
       clear BK251
       clear HB
       have HO257 := n0_
       have BK251 := n1_
       have HB := n2_
       have BK264 := n3_
       have GW264 := n4_
       have GE264 := n5_
       have NB251_264 := n6_
       have NB264_251 := n7_
       clear n0_ n1_ n2_ n3_ n4_ n5_ n6_ n7_
       clear hb hbox hg
       refine hK.out _ _ ⟨HS0_, HS1_, HS2_⟩ (fun hHeld => ?_)
       clear hK K
       refine norm_ (a' := ?_) ?_ ?_
       rotate_left
       ·show Act.put _ (some 8) _ = _
        simp only [Act.put, List.setIfInBounds_toArray, List.set_cons_zero, List.set_cons_succ, i64_w, i32_w]
        rfl
       refine one_ (i := 3) (N := some 24) #[true, true, true, true, true, true, true, false, true, true, true, false, false, true, false] rfl rfl (one_of HT_.out zb6) (by decide) (fun K hK => ?_)
       refine goes_ Tryz.func59 zb6 rfl #[.string (rdOf ByteArray.empty t255 0)] (by rfl) rfl rfl zb1 ?_
       with_reducible refine (impl_ReadDec.calls (rdOf ByteArray.empty t255 0) t259 _ ?side1 ?side2 A6.out).mono ?_
       (case side1 => exact Glob.below HGE.out zb4)
       (case side2 => exact Glob.below HGT.out zb4)
       rintro e w21 ⟨rfl, hb⟩
       have HS0_ := (hb.cell (World.block_lt_of_cell? _ _ (hHeld.1))).trans (hHeld.1)
       have HS1_ := (hb.cell (World.block_lt_of_cell? _ _ (hHeld.2.1))).trans (hHeld.2.1)
       have HS2_ := (hb.cell (World.block_lt_of_cell? _ _ (hHeld.2.2))).trans (hHeld.2.2)
       refine ⟨_, rfl, ?_⟩
       have n0_ := Aside0.mk (Kd.R_below (by (with_reducible repeat (first | apply Kd.R_alloc | apply Kd.R_drewN | apply Kd.R_drew)); exact HO257.out) hb)
       have n1_ := Aside0.mk (blk_below (g := gb251) (o := .cells #[.int .i64 0, .int .i64 0, .int .i64 0, .slice none 0 0] 50 (0, 0)) (by (with_reducible repeat (first | refine bN_ ?_ _ | refine bD_ ?_ | refine bA_ ?_ _)); exact BK251.out) hb)
       have n2_ := Aside0.mk (blk_below (g := gb264) (o := .cells #[.int .i64 0, .int .i64 0, .int .i64 0, .slice none 0 0] 50 (0, 0)) (by (with_reducible repeat (first | refine bN_ ?_ _ | refine bD_ ?_ | refine bA_ ?_ _)); exact BK264.out) hb)
       have n3_ := Aside0.mk (below_step zb4 hb)
       clear HO257
       clear BK251
       clear BK264
       clear HB
       have HO257 := n0_
       have BK251 := n1_
       have BK264 := n2_
       have HB := n3_
       clear n0_ n1_ n2_ n3_
       (try clear hb)
       refine hK.out _ _ ⟨HS0_, HS1_, HS2_⟩ (fun hHeld => ?_)
       clear hK K
       refine norm_ (a' := ?_) ?_ ?_
       rotate_left
       ·show Act.put _ (some 24) _ = _
        simp only [Act.put, List.setIfInBounds_toArray, List.set_cons_zero, List.set_cons_succ, i64_w, i32_w]
        rfl
       refine one_ (i := 7) (N := some 28) #[true, true, true, true, true, true, true, true, true, true, true, false, false, true, false] rfl rfl (one_of HT_.out zb6) (by decide) (fun K hK => ?_)
       refine goes_ Tryz.func59 zb6 rfl #[.string (rdOf ByteArray.empty t255 1)] (by rfl) rfl rfl zb1 ?_
       with_reducible refine (impl_ReadDec.calls (rdOf ByteArray.empty t255 1) t261 _ ?side1 ?side2 A8.out).mono ?_
       (case side1 => exact Glob.below HGE.out zb4)
       (case side2 => exact Glob.below HGT.out zb4)
       rintro e w22 ⟨rfl, hb⟩
       have HS0_ := (hb.cell (World.block_lt_of_cell? _ _ (hHeld.1))).trans (hHeld.1)
       have HS1_ := (hb.cell (World.block_lt_of_cell? _ _ (hHeld.2.1))).trans (hHeld.2.1)
       have HS2_ := (hb.cell (World.block_lt_of_cell? _ _ (hHeld.2.2))).trans (hHeld.2.2)
       refine ⟨_, rfl, ?_⟩
       have n0_ := Aside0.mk (Kd.R_below (by (with_reducible repeat (first | apply Kd.R_alloc | apply Kd.R_drewN | apply Kd.R_drew)); exact HO257.out) hb)
       have n1_ := Aside0.mk (blk_below (g := gb251) (o := .cells #[.int .i64 0, .int .i64 0, .int .i64 0, .slice none 0 0] 50 (0, 0)) (by (with_reducible repeat (first | refine bN_ ?_ _ | refine bD_ ?_ | refine bA_ ?_ _)); exact BK251.out) hb)
       have n2_ := Aside0.mk (blk_below (g := gb264) (o := .cells #[.int .i64 0, .int .i64 0, .int .i64 0, .slice none 0 0] 50 (0, 0)) (by (with_reducible repeat (first | refine bN_ ?_ _ | refine bD_ ?_ | refine bA_ ?_ _)); exact BK264.out) hb)
       have n3_ := Aside0.mk (below_step zb4 hb)
       clear HO257
       clear BK251
       clear BK264
       clear HB
       have HO257 := n0_
       have BK251 := n1_
       have BK264 := n2_
       have HB := n3_
       clear n0_ n1_ n2_ n3_
       (try clear hb)
       refine hK.out _ _ ⟨HS0_, HS1_, HS2_⟩ (fun hHeld => ?_)
       clear hK K
       refine norm_ (a' := ?_) ?_ ?_
       rotate_left
       ·show Act.put _ (some 28) _ = _
        simp only [Act.put, List.setIfInBounds_toArray, List.set_cons_zero, List.set_cons_succ, i64_w, i32_w]
        rfl
       refine one_ (i := 11) (N := some 32) #[true, true, true, true, true, true, true, true, true, true, true, true, false, true, false] rfl rfl (one_of HT_.out zb6) (by decide) (fun K hK => ?_)
       refine goes_ Tryz.func59 zb6 rfl #[.string (rdOf ByteArray.empty t255 2)] (by rfl) rfl rfl zb1 ?_
       with_reducible refine (impl_ReadDec.calls (rdOf ByteArray.empty t255 2) t263 _ ?side1 ?side2 A10.out).mono ?_
       (case side1 => exact Glob.below HGE.out zb4)
       (case side2 => exact Glob.below HGT.out zb4)
       rintro e w23 ⟨rfl, hb⟩
       have HS0_ := (hb.cell (World.block_lt_of_cell? _ _ (hHeld.1))).trans (hHeld.1)
       have HS1_ := (hb.cell (World.block_lt_of_cell? _ _ (hHeld.2.1))).trans (hHeld.2.1)
       have HS2_ := (hb.cell (World.block_lt_of_cell? _ _ (hHeld.2.2))).trans (hHeld.2.2)
       refine ⟨_, rfl, ?_⟩
       have n0_ := Aside0.mk (Kd.R_below (by (with_reducible repeat (first | apply Kd.R_alloc | apply Kd.R_drewN | apply Kd.R_drew)); exact HO257.out) hb)
       have n1_ := Aside0.mk (blk_below (g := gb251) (o := .cells #[.int .i64 0, .int .i64 0, .int .i64 0, .slice none 0 0] 50 (0, 0)) (by (with_reducible repeat (first | refine bN_ ?_ _ | refine bD_ ?_ | refine bA_ ?_ _)); exact BK251.out) hb)
       have n2_ := Aside0.mk (blk_below (g := gb264) (o := .cells #[.int .i64 0, .int .i64 0, .int .i64 0, .slice none 0 0] 50 (0, 0)) (by (with_reducible repeat (first | refine bN_ ?_ _ | refine bD_ ?_ | refine bA_ ?_ _)); exact BK264.out) hb)
       have n3_ := Aside0.mk (below_step zb4 hb)
       clear HO257
       clear BK251
       clear BK264
       clear HB
       have HO257 := n0_
       have BK251 := n1_
       have BK264 := n2_
       have HB := n3_
       clear n0_ n1_ n2_ n3_
       (try clear hb)
       refine hK.out _ _ ⟨HS0_, HS1_, HS2_⟩ (fun hHeld => ?_)
       clear hK K
       refine norm_ (a' := ?_) ?_ ?_
       rotate_left
       ·show Act.put _ (some 32) _ = _
        simp only [Act.put, List.setIfInBounds_toArray, List.set_cons_zero, List.set_cons_succ, i64_w, i32_w]
        rfl
       refine pure_ (i := 12) (N := some 33) (v := ?_) (a' := ?_) #[true, true, true, true, true, true, true, true, true, true, true, true, true, true, false] rfl rfl (any_of HT_.out zb6) (fun _ _ _ h => h) (Or.inl ⟨by rfl, ?_⟩) ?_ ?_
       rotate_left
       ·exact zs2
       rotate_left
       ·exact zs0
       exact norm_ (by simp only [putAll, Act.put, List.setIfInBounds_toArray, List.set_cons_zero, List.set_cons_succ]) (hCont (gb264) _ ⟨hHeld, (by (with_reducible repeat (first | apply Kd.R_alloc | apply Kd.R_drewN | apply Kd.R_drew)); exact HO257.out), (by (with_reducible repeat (first | refine bN_ ?_ _ | refine bD_ ?_ | refine bA_ ?_ _)); exact BK251.out), (by (with_reducible repeat (first | refine bN_ ?_ _ | refine bD_ ?_ | refine bA_ ?_ _)); exact BK264.out), GW264.out, GE264.out, NB251_264.out, NB264_251.out, zb4⟩)
     rintro gb264 w24 ⟨hS_, h0_, h1_, h2_, h3_, h4_, h5_, h6_, h7_⟩
     have n0_ : Aside0 (Kd.R Kd.string 9 w24 w.heap.size (fun _ => True) (.slice (some ad258) t255.length co18) t255) := ⟨h0_⟩
     have n1_ : Aside0 (w24.heap[gb251]? = some (.cells #[.int .i64 0, .int .i64 0, .int .i64 0, .slice none 0 0] 50 (0, 0))) := ⟨h1_⟩
     have n2_ : Aside0 (w24.heap[gb264]? = some (.cells #[.int .i64 0, .int .i64 0, .int .i64 0, .slice none 0 0] 50 (0, 0))) := ⟨h2_⟩
     have n3_ : Aside0 (w.heap.size ≤ gb264) := ⟨h3_⟩
     have n4_ : Aside0 (w.heap.size ≤ gb264) := ⟨h4_⟩
     have n5_ : Aside0 (gb251 ≠ gb264) := ⟨h5_⟩
     have n6_ : Aside0 (gb264 ≠ gb251) := ⟨h6_⟩
     have n7_ : Aside0 (Below w.heap.size w w24) := ⟨h7_⟩
     clear HO257
     clear BK251
     clear HB
     clear h0_ h1_ h2_ h3_ h4_ h5_ h6_ h7_
     have HO257 := n0_
     have BK251 := n1_
     have BK264 := n2_
     have GW264 := n3_
     have GE264 := n4_
     have NB251_264 := n5_
     have NB264_251 := n6_
     have HB := n7_
     clear n0_ n1_ n2_ n3_ n4_ n5_ n6_ n7_
     have hHeld : w24.cell? ad258 = some (.string (rdOf ByteArray.empty t255 0)) ∧ w24.cell? ⟨ad258.block, ad258.off + 1, none⟩ = some (.string (rdOf ByteArray.empty t255 1)) ∧ w24.cell? ⟨ad258.block, ad258.off + 2, none⟩ = some (.string (rdOf ByteArray.empty t255 2)) := hS_
     refine norm_ (a' := ?_) ?_ ?_
     rotate_left
     ·simp only [putAll, Act.put, List.setIfInBounds_toArray, List.set_cons_zero, List.set_cons_succ]
      rfl
     refine one_ (i := 14) (N := none) #[true, true, true, true, true, true, true, true, true, true, true, true, true, true, true] rfl rfl (one_of HT_.out zb6) (by decide) (fun K hK => ?_)
     have hs25 : w24.cell? ⟨gb264, 0, none⟩ = some (.int .i64 0) := (blk_cell BK264.out 0).trans rfl
     have hfs25 := blk_frozen BK264.out 0
     have hns25_0 := NB251_264.out
     have hms25_0 := NB264_251.out
     have hs26 : w24.cell? ⟨gb264, 1, none⟩ = some (.int .i64 0) := (blk_cell BK264.out 1).trans rfl
     have hfs26 := blk_frozen BK264.out 1
     have hns26_0 := NB251_264.out
     have hms26_0 := NB264_251.out
     have hs27 : w24.cell? ⟨gb264, 2, none⟩ = some (.int .i64 0) := (blk_cell BK264.out 2).trans rfl
     have hfs27 := blk_frozen BK264.out 2
     have hns27_0 := NB251_264.out
     have hms27_0 := NB264_251.out
     have hs28 : w24.cell? ⟨gb264, 3, none⟩ = some (.slice none 0 0) := (blk_cell BK264.out 3).trans rfl
     have hfs28 := blk_frozen BK264.out 3
     have hns28_0 := NB251_264.out
     have hms28_0 := NB264_251.out
     refine skip_ (w1 := ?_) (by rfl) rfl ?_ ?_
     rotate_left
     ·go_simp
      rfl
     refine hK.out _ _ ⟨((cell_far (p := ⟨gb264, _, none⟩) (by first | exact Kd.own_blk (Kd.R_ne HO257.out BK264.out (by decide)) | (rw [add_block]; exact Kd.own_blk (Kd.R_ne HO257.out BK264.out (by decide))) | (show (Addr.add _ _).block ≠ _; rw [add_block]; exact Kd.own_blk (Kd.R_ne HO257.out BK264.out (by decide))) | (dsimp only; exact Kd.own_blk (Kd.R_ne HO257.out BK264.out (by decide)))) _).trans (((cell_far (p := ⟨gb264, _, none⟩) (by first | exact Kd.own_blk (Kd.R_ne HO257.out BK264.out (by decide)) | (rw [add_block]; exact Kd.own_blk (Kd.R_ne HO257.out BK264.out (by decide))) | (show (Addr.add _ _).block ≠ _; rw [add_block]; exact Kd.own_blk (Kd.R_ne HO257.out BK264.out (by decide))) | (dsimp only; exact Kd.own_blk (Kd.R_ne HO257.out BK264.out (by decide)))) _).trans (((cell_far (p := ⟨gb264, _, none⟩) (by first | exact Kd.own_blk (Kd.R_ne HO257.out BK264.out (by decide)) | (rw [add_block]; exact Kd.own_blk (Kd.R_ne HO257.out BK264.out (by decide))) | (show (Addr.add _ _).block ≠ _; rw [add_block]; exact Kd.own_blk (Kd.R_ne HO257.out BK264.out (by decide))) | (dsimp only; exact Kd.own_blk (Kd.R_ne HO257.out BK264.out (by decide)))) _).trans (((cell_far (p := ⟨gb264, _, none⟩) (by first | exact Kd.own_blk (Kd.R_ne HO257.out BK264.out (by decide)) | (rw [add_block]; exact Kd.own_blk (Kd.R_ne HO257.out BK264.out (by decide))) | (show (Addr.add _ _).block ≠ _; rw [add_block]; exact Kd.own_blk (Kd.R_ne HO257.out BK264.out (by decide))) | (dsimp only; exact Kd.own_blk (Kd.R_ne HO257.out BK264.out (by decide)))) _).trans (hHeld.1)))))))), ((cell_far (p := ⟨gb264, _, none⟩) (by first | exact Kd.own_blk (Kd.R_ne HO257.out BK264.out (by decide)) | (rw [add_block]; exact Kd.own_blk (Kd.R_ne HO257.out BK264.out (by decide))) | (show (Addr.add _ _).block ≠ _; rw [add_block]; exact Kd.own_blk (Kd.R_ne HO257.out BK264.out (by decide))) | (dsimp only; exact Kd.own_blk (Kd.R_ne HO257.out BK264.out (by decide)))) _).trans (((cell_far (p := ⟨gb264, _, none⟩) (by first | exact Kd.own_blk (Kd.R_ne HO257.out BK264.out (by decide)) | (rw [add_block]; exact Kd.own_blk (Kd.R_ne HO257.out BK264.out (by decide))) | (show (Addr.add _ _).block ≠ _; rw [add_block]; exact Kd.own_blk (Kd.R_ne HO257.out BK264.out (by decide))) | (dsimp only; exact Kd.own_blk (Kd.R_ne HO257.out BK264.out (by decide)))) _).trans (((cell_far (p := ⟨gb264, _, none⟩) (by first | exact Kd.own_blk (Kd.R_ne HO257.out BK264.out (by decide)) | (rw [add_block]; exact Kd.own_blk (Kd.R_ne HO257.out BK264.out (by decide))) | (show (Addr.add _ _).block ≠ _; rw [add_block]; exact Kd.own_blk (Kd.R_ne HO257.out BK264.out (by decide))) | (dsimp only; exact Kd.own_blk (Kd.R_ne HO257.out BK264.out (by decide)))) _).trans (((cell_far (p := ⟨gb264, _, none⟩) (by first | exact Kd.own_blk (Kd.R_ne HO257.out BK264.out (by decide)) | (rw [add_block]; exact Kd.own_blk (Kd.R_ne HO257.out BK264.out (by decide))) | (show (Addr.add _ _).block ≠ _; rw [add_block]; exact Kd.own_blk (Kd.R_ne HO257.out BK264.out (by decide))) | (dsimp only; exact Kd.own_blk (Kd.R_ne HO257.out BK264.out (by decide)))) _).trans (hHeld.2.1)))))))), ((cell_far (p := ⟨gb264, _, none⟩) (by first | exact Kd.own_blk (Kd.R_ne HO257.out BK264.out (by decide)) | (rw [add_block]; exact Kd.own_blk (Kd.R_ne HO257.out BK264.out (by decide))) | (show (Addr.add _ _).block ≠ _; rw [add_block]; exact Kd.own_blk (Kd.R_ne HO257.out BK264.out (by decide))) | (dsimp only; exact Kd.own_blk (Kd.R_ne HO257.out BK264.out (by decide)))) _).trans (((cell_far (p := ⟨gb264, _, none⟩) (by first | exact Kd.own_blk (Kd.R_ne HO257.out BK264.out (by decide)) | (rw [add_block]; exact Kd.own_blk (Kd.R_ne HO257.out BK264.out (by decide))) | (show (Addr.add _ _).block ≠ _; rw [add_block]; exact Kd.own_blk (Kd.R_ne HO257.out BK264.out (by decide))) | (dsimp only; exact Kd.own_blk (Kd.R_ne HO257.out BK264.out (by decide)))) _).trans (((cell_far (p := ⟨gb264, _, none⟩) (by first | exact Kd.own_blk (Kd.R_ne HO257.out BK264.out (by decide)) | (rw [add_block]; exact Kd.own_blk (Kd.R_ne HO257.out BK264.out (by decide))) | (show (Addr.add _ _).block ≠ _; rw [add_block]; exact Kd.own_blk (Kd.R_ne HO257.out BK264.out (by decide))) | (dsimp only; exact Kd.own_blk (Kd.R_ne HO257.out BK264.out (by decide)))) _).trans (((cell_far (p := ⟨gb264, _, none⟩) (by first | exact Kd.own_blk (Kd.R_ne HO257.out BK264.out (by decide)) | (rw [add_block]; exact Kd.own_blk (Kd.R_ne HO257.out BK264.out (by decide))) | (show (Addr.add _ _).block ≠ _; rw [add_block]; exact Kd.own_blk (Kd.R_ne HO257.out BK264.out (by decide))) | (dsimp only; exact Kd.own_blk (Kd.R_ne HO257.out BK264.out (by decide)))) _).trans (hHeld.2.2))))))))⟩ (fun hHeld => ?_)
     clear hK K
     refine done_ (done_of HT_.out zb6) ?_
     have H := HZ_.out
     clear HZ_
     by_cases c11 : t254 = true
     ·subst c11
      have H1 : ((strings_Split.f t253 (⟨#[46]⟩ : ByteArray)).bind fun t265 => ((impl_VersionText.f k t259 t261 t263 t265).bind fun t268 => (if t268.toList = a0.toList then (if a0.toList = ([] : List UInt8) then (some (0, 0, 0, ([] : List ByteArray), false)) else (some (t259, t261, t263, t265, true))) else (some (0, 0, 0, ([] : List ByteArray), false))))) = some (r1, r2, r3, r4, r5) := by rw [if_pos rfl] at H; exact H
      clear H
      have H := H1
      clear H1
      replace H := Option.bind_eq_some_iff.mp H
      obtain ⟨t265, A120, H⟩ := H
      replace H : ((impl_VersionText.f k t259 t261 t263 t265).bind fun t268 => (if t268.toList = a0.toList then (if a0.toList = ([] : List UInt8) then (some (0, 0, 0, ([] : List ByteArray), false)) else (some (t259, t261, t263, t265, true))) else (some (0, 0, 0, ([] : List ByteArray), false)))) = some (r1, r2, r3, r4, r5) := H
      have A12 := Aside0.mk A120
      clear A120
      replace H := Option.bind_eq_some_iff.mp H
      obtain ⟨t268, A130, H⟩ := H
      replace H : (if t268.toList = a0.toList then (if a0.toList = ([] : List UInt8) then (some (0, 0, 0, ([] : List ByteArray), false)) else (some (t259, t261, t263, t265, true))) else (some (0, 0, 0, ([] : List ByteArray), false))) = some (r1, r2, r3, r4, r5) := H
      have A13 := Aside0.mk A130
      clear A130
      by_cases c14 : t268.toList = a0.toList
      ·rw [if_pos c14] at H
       have c14b0 : (t268.toList == a0.toList) = true := beq_iff_eq.mpr c14
       have c14b1 : (t268.toList != a0.toList) = false := bne_eq_false_iff_eq.mpr c14
       clear c14
       by_cases c15 : a0.toList = ([] : List UInt8)
       ·rw [if_pos c15] at H
        have c15b0 : (a0.toList == ([] : List UInt8)) = true := beq_iff_eq.mpr c15
        have c15b1 : (a0.toList != ([] : List UInt8)) = false := bne_eq_false_iff_eq.mpr c15
        clear c15
        simp only [Option.some.injEq, Prod.mk.injEq] at H
        obtain ⟨rfl, rfl, rfl, rfl, rfl⟩ := H
        exact impl_ReadVersion.zl1
       ·rw [if_neg c15] at H
        have c15b0 : (a0.toList == ([] : List UInt8)) = false := beq_eq_false_iff_ne.mpr c15
        have c15b1 : (a0.toList != ([] : List UInt8)) = true := bne_iff_ne.mpr c15
        simp only [Option.some.injEq, Prod.mk.injEq] at H
        obtain ⟨rfl, rfl, rfl, rfl, rfl⟩ := H
        try go_wp2_with (first | ((with_reducible refine gate_callee (f := 58) rfl ?_); refine goesL_ (some 36) rfl rfl Tryz.func58 zb6 rfl #[.string t253, .string (⟨#[46]⟩ : ByteArray)] rfl zb1 ?_; (with_reducible refine (strings_Split.calls t253 (⟨#[46]⟩ : ByteArray) t265 _ ?side1 A12.out).mono ?_); (case side1 => exact Glob.below HGM.out zb4); rintro e w48 ⟨v266, rfl, ho0, hb⟩; refine ⟨_, rfl, ?_⟩; have n0_ := Aside0.mk (Kd.R_elder' (by (with_reducible repeat (first | apply Kd.R_alloc | apply Kd.R_drewN | apply Kd.R_drew)); exact (Kd.R_mono (Kd.R_far (p := ⟨gb264, 3, none⟩) (Kd.R_far (p := ⟨gb264, 2, none⟩) (Kd.R_far (p := ⟨gb264, 1, none⟩) (Kd.R_far (p := ⟨gb264, 0, none⟩) (Kd.R_types HO257.out BK264.out (by decide)) (fun _ hk => hk.2) (.int .i64 t259)) (fun _ hk => hk.2) (.int .i64 t261)) (fun _ hk => hk.2) (.int .i64 t263)) (fun _ hk => hk.2) (.slice none 0 0)) (fun _ h_ => h_.1))) (Kd.R_base ho0) hb); have n1_ := Aside0.mk (Kd.R_lower (Kd.R_new' ho0 (Kd.R_lt (by (with_reducible repeat (first | apply Kd.R_alloc | apply Kd.R_drewN | apply Kd.R_drew)); exact (Kd.R_mono (Kd.R_far (p := ⟨gb264, 3, none⟩) (Kd.R_far (p := ⟨gb264, 2, none⟩) (Kd.R_far (p := ⟨gb264, 1, none⟩) (Kd.R_far (p := ⟨gb264, 0, none⟩) (Kd.R_types HO257.out BK264.out (by decide)) (fun _ hk => hk.2) (.int .i64 t259)) (fun _ hk => hk.2) (.int .i64 t261)) (fun _ hk => hk.2) (.int .i64 t263)) (fun _ hk => hk.2) (.slice none 0 0)) (fun _ h_ => h_.1))))) (below_size zb4)); have n2_ := Aside0.mk (blk_below (g := gb251) (o := .cells #[.int .i64 0, .int .i64 0, .int .i64 0, .slice none 0 0] 50 (0, 0)) (by (with_reducible repeat (first | refine bN_ ?_ _ | refine bD_ ?_ | refine bA_ ?_ _)); refine blk_far ?_ NB251_264.out _; (with_reducible repeat (first | refine bN_ ?_ _ | refine bD_ ?_ | refine bA_ ?_ _)); refine blk_far ?_ NB251_264.out _; (with_reducible repeat (first | refine bN_ ?_ _ | refine bD_ ?_ | refine bA_ ?_ _)); refine blk_far ?_ NB251_264.out _; (with_reducible repeat (first | refine bN_ ?_ _ | refine bD_ ?_ | refine bA_ ?_ _)); refine blk_far ?_ NB251_264.out _; (with_reducible repeat (first | refine bN_ ?_ _ | refine bD_ ?_ | refine bA_ ?_ _)); exact BK251.out) hb); have n3_ := Aside0.mk (blk_below (g := gb264) (o := .cells #[.int .i64 t259, .int .i64 t261, .int .i64 t263, .slice none 0 0] 50 (0, 0)) (by (with_reducible repeat (first | refine bN_ ?_ _ | refine bD_ ?_ | refine bA_ ?_ _)); refine blk_put (cs := #[.int .i64 t259, .int .i64 t261, .int .i64 t263, .slice none 0 0]) ?_ 3 _ rfl; (with_reducible repeat (first | refine bN_ ?_ _ | refine bD_ ?_ | refine bA_ ?_ _)); refine blk_put (cs := #[.int .i64 t259, .int .i64 t261, .int .i64 0, .slice none 0 0]) ?_ 2 _ rfl; (with_reducible repeat (first | refine bN_ ?_ _ | refine bD_ ?_ | refine bA_ ?_ _)); refine blk_put (cs := #[.int .i64 t259, .int .i64 0, .int .i64 0, .slice none 0 0]) ?_ 1 _ rfl; (with_reducible repeat (first | refine bN_ ?_ _ | refine bD_ ?_ | refine bA_ ?_ _)); refine blk_put (cs := #[.int .i64 0, .int .i64 0, .int .i64 0, .slice none 0 0]) ?_ 0 _ rfl; (with_reducible repeat (first | refine bN_ ?_ _ | refine bD_ ?_ | refine bA_ ?_ _)); exact BK264.out) hb); have n4_ := Aside0.mk (below_step zb4 hb); clear HO257; clear BK251; clear BK264; clear HB; have HO257 := n0_; have HO267 := n1_; have BK251 := n2_; have BK264 := n3_; have HB := n4_; clear n0_ n1_ n2_ n3_ n4_; (try clear hb); (try clear ho0); obtain ⟨Ao49, co49, eo49⟩ := Kd.R_slice HO267.out; subst eo49; have hnb50 := NB264_251.out; have hnc50 := NB251_264.out; obtain ⟨hcz51_0, hcz51_1, hcz51_2, hcz51_3, hfz51_0, hfz51_1, hfz51_2, hfz51_3⟩ := blk_4 BK264.out) | ((with_reducible refine gate_callee (f := 60) rfl ?_); refine goesL_ (some 39) rfl rfl Tryz.func60 zb6 rfl #[.agg #[.int .i64 t259, .int .i64 t261, .int .i64 t263, .slice Ao49 t265.length co49]] rfl zb1 ?_; (with_reducible refine (impl_VersionText.calls k t259 t261 t263 _ _ t265 t268 _ ?side1 ?side2 ?side3 ?side4 A13.out).mono ?_); (case side1 => refine (Kd.R_reads' (e := 9) (base := w.heap.size) (ok := fun k_ => (True ∧ some k_ ≠ (.slice (some ad258) t255.length co18 : Value).ownBlock)) (n := t265.length) (c := co49) ?_).2.2; exact (by (with_reducible repeat (first | apply Kd.R_alloc | apply Kd.R_drewN | apply Kd.R_drew)); exact (Kd.R_mono (Kd.R_far (p := ⟨gb264, 3, none⟩) (Kd.R_types HO267.out BK264.out (by decide)) (fun _ hk => hk.2) (.slice Ao49 t265.length co49)) (fun _ h_ => h_.1)))); (case side2 => exact (Kd.R_reads' HO267.out).2.1); (case side3 => exact Glob.below HGE.out zb4); (case side4 => exact Glob.below HGT.out zb4); rintro e w52 ⟨rfl, hb⟩; refine ⟨_, rfl, ?_⟩; have n0_ := Aside0.mk (Kd.R_below (by (with_reducible repeat (first | apply Kd.R_alloc | apply Kd.R_drewN | apply Kd.R_drew)); exact (Kd.R_mono (Kd.R_far (p := ⟨gb264, 3, none⟩) (Kd.R_types HO257.out BK264.out (by decide)) (fun _ hk => hk.2) (.slice Ao49 t265.length co49)) (fun _ h_ => h_.1))) hb); have n1_ := Aside0.mk (Kd.R_below (by (with_reducible repeat (first | apply Kd.R_alloc | apply Kd.R_drewN | apply Kd.R_drew)); exact (Kd.R_mono (Kd.R_far (p := ⟨gb264, 3, none⟩) (Kd.R_types HO267.out BK264.out (by decide)) (fun _ hk => hk.2) (.slice Ao49 t265.length co49)) (fun _ h_ => h_.1))) hb); have n2_ := Aside0.mk (blk_below (g := gb251) (o := .cells #[.int .i64 0, .int .i64 0, .int .i64 0, .slice none 0 0] 50 (0, 0)) (by (with_reducible repeat (first | refine bN_ ?_ _ | refine bD_ ?_ | refine bA_ ?_ _)); refine blk_far ?_ NB251_264.out _; (with_reducible repeat (first | refine bN_ ?_ _ | refine bD_ ?_ | refine bA_ ?_ _)); exact BK251.out) hb); have n3_ := Aside0.mk (blk_below (g := gb264) (o := .cells #[.int .i64 t259, .int .i64 t261, .int .i64 t263, .slice Ao49 t265.length co49] 50 (0, 0)) (by (with_reducible repeat (first | refine bN_ ?_ _ | refine bD_ ?_ | refine bA_ ?_ _)); refine blk_put (cs := #[.int .i64 t259, .int .i64 t261, .int .i64 t263, .slice none 0 0]) ?_ 3 _ rfl; (with_reducible repeat (first | refine bN_ ?_ _ | refine bD_ ?_ | refine bA_ ?_ _)); exact BK264.out) hb); have n4_ := Aside0.mk (below_step zb4 hb); clear HO257; clear HO267; clear BK251; clear BK264; clear HB; have HO257 := n0_; have HO267 := n1_; have BK251 := n2_; have BK264 := n3_; have HB := n4_; clear n0_ n1_ n2_ n3_ n4_; (try clear hb); obtain ⟨hcz53_0, hcz53_1, hcz53_2, hcz53_3, hfz53_0, hfz53_1, hfz53_2, hfz53_3⟩ := blk_4 BK264.out; obtain ⟨hcz54_0, hcz54_1, hcz54_2, hcz54_3, hfz54_0, hfz54_1, hfz54_2, hfz54_3⟩ := blk_4 BK251.out))
        refine bodyPost_ret (results_ct rfl _ _ gb251 50 #[.int .i64 t259, .int .i64 t261, .int .i64 t263, .slice Ao49 t265.length co49] (0, 0) _ rfl (by (with_reducible repeat (first | refine bN_ ?_ _ | refine bD_ ?_ | refine bA_ ?_ _)); refine blk_put (cs := #[.int .i64 t259, .int .i64 t261, .int .i64 t263, .slice none 0 0]) ?_ 3 _ rfl; (with_reducible repeat (first | refine bN_ ?_ _ | refine bD_ ?_ | refine bA_ ?_ _)); refine blk_put (cs := #[.int .i64 t259, .int .i64 t261, .int .i64 0, .slice none 0 0]) ?_ 2 _ rfl; (with_reducible repeat (first | refine bN_ ?_ _ | refine bD_ ?_ | refine bA_ ?_ _)); refine blk_put (cs := #[.int .i64 t259, .int .i64 0, .int .i64 0, .slice none 0 0]) ?_ 1 _ rfl; (with_reducible repeat (first | refine bN_ ?_ _ | refine bD_ ?_ | refine bA_ ?_ _)); refine blk_put (cs := #[.int .i64 0, .int .i64 0, .int .i64 0, .slice none 0 0]) ?_ 0 _ rfl; (with_reducible repeat (first | refine bN_ ?_ _ | refine bD_ ?_ | refine bA_ ?_ _)); exact BK251.out) Tryz.underlying50 rfl zb6) rfl ?_
        exact ⟨_, zb3, by (with_reducible repeat (first | apply Kd.R_alloc | apply Kd.R_drewN | apply Kd.R_drew)); exact Kd.R_mono (Kd.R_far (p := ⟨gb251, 3, none⟩) (Kd.R_far (p := ⟨gb251, 2, none⟩) (Kd.R_far (p := ⟨gb251, 1, none⟩) (Kd.R_far (p := ⟨gb251, 0, none⟩) (Kd.R_types HO267.out BK251.out (by decide)) (fun _ hk => hk.2) (.int .i64 t259)) (fun _ hk => hk.2) (.int .i64 t261)) (fun _ hk => hk.2) (.int .i64 t263)) (fun _ hk => hk.2) (.slice Ao49 t265.length co49)) (fun _ hk => trivial), by repeat (first | (with_reducible first | exact HB.out | apply below_alloc | apply pw_below_drewN | apply below_drew1 | refine below_set ?_ GE251.out | refine below_set ?_ GE264.out) | exact HB.out)⟩
      ·rw [if_neg c14] at H
       have c14b0 : (t268.toList == a0.toList) = false := beq_eq_false_iff_ne.mpr c14
       have c14b1 : (t268.toList != a0.toList) = true := bne_iff_ne.mpr c14
       simp only [Option.some.injEq, Prod.mk.injEq] at H
       obtain ⟨rfl, rfl, rfl, rfl, rfl⟩ := H
       exact impl_ReadVersion.zl1
     ·replace c11 := Bool.eq_false_iff.mpr c11
      subst c11
      have H1 : ((impl_VersionText.f k t259 t261 t263 ([] : List ByteArray)).bind fun t269 => (if t269.toList = a0.toList then (if a0.toList = ([] : List UInt8) then (some (0, 0, 0, ([] : List ByteArray), false)) else (some (t259, t261, t263, ([] : List ByteArray), true))) else (some (0, 0, 0, ([] : List ByteArray), false)))) = some (r1, r2, r3, r4, r5) := by rw [if_neg (show ¬ (false = true) by decide)] at H; exact H
      clear H
      have H := H1
      clear H1
      replace H := Option.bind_eq_some_iff.mp H
      obtain ⟨t269, A740, H⟩ := H
      replace H : (if t269.toList = a0.toList then (if a0.toList = ([] : List UInt8) then (some (0, 0, 0, ([] : List ByteArray), false)) else (some (t259, t261, t263, ([] : List ByteArray), true))) else (some (0, 0, 0, ([] : List ByteArray), false))) = some (r1, r2, r3, r4, r5) := H
      have A74 := Aside0.mk A740
      clear A740
      by_cases c75 : t269.toList = a0.toList
      ·rw [if_pos c75] at H
       have c75b0 : (t269.toList == a0.toList) = true := beq_iff_eq.mpr c75
       have c75b1 : (t269.toList != a0.toList) = false := bne_eq_false_iff_eq.mpr c75
       clear c75
       by_cases c76 : a0.toList = ([] : List UInt8)
       ·rw [if_pos c76] at H
        have c76b0 : (a0.toList == ([] : List UInt8)) = true := beq_iff_eq.mpr c76
        have c76b1 : (a0.toList != ([] : List UInt8)) = false := bne_eq_false_iff_eq.mpr c76
        clear c76
        simp only [Option.some.injEq, Prod.mk.injEq] at H
        obtain ⟨rfl, rfl, rfl, rfl, rfl⟩ := H
        have hnb90 := NB264_251.out
        have hnc90 := NB251_264.out
        obtain ⟨hcz91_0, hcz91_1, hcz91_2, hcz91_3, hfz91_0, hfz91_1, hfz91_2, hfz91_3⟩ := blk_4 BK264.out
        exact impl_ReadVersion.zl2
       ·rw [if_neg c76] at H
        have c76b0 : (a0.toList == ([] : List UInt8)) = false := beq_eq_false_iff_ne.mpr c76
        have c76b1 : (a0.toList != ([] : List UInt8)) = true := bne_iff_ne.mpr c76
        simp only [Option.some.injEq, Prod.mk.injEq] at H
        obtain ⟨rfl, rfl, rfl, rfl, rfl⟩ := H
        have hnb107 := NB264_251.out
        have hnc107 := NB251_264.out
        obtain ⟨hcz108_0, hcz108_1, hcz108_2, hcz108_3, hfz108_0, hfz108_1, hfz108_2, hfz108_3⟩ := blk_4 BK264.out
        try go_wp2_with (first | ((with_reducible refine gate_callee (f := 60) rfl ?_); refine goesL_ (some 39) rfl rfl Tryz.func60 zb6 rfl #[.agg #[.int .i64 t259, .int .i64 t261, .int .i64 t263, .slice none 0 0]] rfl zb1 ?_; (refine (impl_VersionText.calls k t259 t261 t263 _ _ ([] : List ByteArray) t269 _ ?side1 ?side2 ?side3 ?side4 A74.out).mono ?_); (case side1 => exact Kd.C_nil _ _); (case side2 => exact Nat.le_refl _); (case side3 => exact Glob.below HGE.out zb4); (case side4 => exact Glob.below HGT.out zb4); rintro e w109 ⟨rfl, hb⟩; refine ⟨_, rfl, ?_⟩; have n0_ := Aside0.mk (Kd.R_below (by (with_reducible repeat (first | apply Kd.R_alloc | apply Kd.R_drewN | apply Kd.R_drew)); exact (Kd.R_mono (Kd.R_far (p := ⟨gb264, 3, none⟩) (Kd.R_far (p := ⟨gb264, 2, none⟩) (Kd.R_far (p := ⟨gb264, 1, none⟩) (Kd.R_far (p := ⟨gb264, 0, none⟩) (Kd.R_types HO257.out BK264.out (by decide)) (fun _ hk => hk.2) (.int .i64 t259)) (fun _ hk => hk.2) (.int .i64 t261)) (fun _ hk => hk.2) (.int .i64 t263)) (fun _ hk => hk.2) (.slice none 0 0)) (fun _ h_ => h_.1))) hb); have n1_ := Aside0.mk (blk_below (g := gb251) (o := .cells #[.int .i64 0, .int .i64 0, .int .i64 0, .slice none 0 0] 50 (0, 0)) (by (with_reducible repeat (first | refine bN_ ?_ _ | refine bD_ ?_ | refine bA_ ?_ _)); refine blk_far ?_ NB251_264.out _; (with_reducible repeat (first | refine bN_ ?_ _ | refine bD_ ?_ | refine bA_ ?_ _)); refine blk_far ?_ NB251_264.out _; (with_reducible repeat (first | refine bN_ ?_ _ | refine bD_ ?_ | refine bA_ ?_ _)); refine blk_far ?_ NB251_264.out _; (with_reducible repeat (first | refine bN_ ?_ _ | refine bD_ ?_ | refine bA_ ?_ _)); refine blk_far ?_ NB251_264.out _; (with_reducible repeat (first | refine bN_ ?_ _ | refine bD_ ?_ | refine bA_ ?_ _)); exact BK251.out) hb); have n2_ := Aside0.mk (blk_below (g := gb264) (o := .cells #[.int .i64 t259, .int .i64 t261, .int .i64 t263, .slice none 0 0] 50 (0, 0)) (by (with_reducible repeat (first | refine bN_ ?_ _ | refine bD_ ?_ | refine bA_ ?_ _)); refine blk_put (cs := #[.int .i64 t259, .int .i64 t261, .int .i64 t263, .slice none 0 0]) ?_ 3 _ rfl; (with_reducible repeat (first | refine bN_ ?_ _ | refine bD_ ?_ | refine bA_ ?_ _)); refine blk_put (cs := #[.int .i64 t259, .int .i64 t261, .int .i64 0, .slice none 0 0]) ?_ 2 _ rfl; (with_reducible repeat (first | refine bN_ ?_ _ | refine bD_ ?_ | refine bA_ ?_ _)); refine blk_put (cs := #[.int .i64 t259, .int .i64 0, .int .i64 0, .slice none 0 0]) ?_ 1 _ rfl; (with_reducible repeat (first | refine bN_ ?_ _ | refine bD_ ?_ | refine bA_ ?_ _)); refine blk_put (cs := #[.int .i64 0, .int .i64 0, .int .i64 0, .slice none 0 0]) ?_ 0 _ rfl; (with_reducible repeat (first | refine bN_ ?_ _ | refine bD_ ?_ | refine bA_ ?_ _)); exact BK264.out) hb); have n3_ := Aside0.mk (below_step zb4 hb); clear HO257; clear BK251; clear BK264; clear HB; have HO257 := n0_; have BK251 := n1_; have BK264 := n2_; have HB := n3_; clear n0_ n1_ n2_ n3_; (try clear hb); obtain ⟨hcz110_0, hcz110_1, hcz110_2, hcz110_3, hfz110_0, hfz110_1, hfz110_2, hfz110_3⟩ := blk_4 BK264.out; obtain ⟨hcz111_0, hcz111_1, hcz111_2, hcz111_3, hfz111_0, hfz111_1, hfz111_2, hfz111_3⟩ := blk_4 BK251.out))
        refine bodyPost_ret (results_ct rfl _ _ gb251 50 #[.int .i64 t259, .int .i64 t261, .int .i64 t263, .slice none 0 0] (0, 0) _ rfl (by (with_reducible repeat (first | refine bN_ ?_ _ | refine bD_ ?_ | refine bA_ ?_ _)); refine blk_put (cs := #[.int .i64 t259, .int .i64 t261, .int .i64 t263, .slice none 0 0]) ?_ 3 _ rfl; (with_reducible repeat (first | refine bN_ ?_ _ | refine bD_ ?_ | refine bA_ ?_ _)); refine blk_put (cs := #[.int .i64 t259, .int .i64 t261, .int .i64 0, .slice none 0 0]) ?_ 2 _ rfl; (with_reducible repeat (first | refine bN_ ?_ _ | refine bD_ ?_ | refine bA_ ?_ _)); refine blk_put (cs := #[.int .i64 t259, .int .i64 0, .int .i64 0, .slice none 0 0]) ?_ 1 _ rfl; (with_reducible repeat (first | refine bN_ ?_ _ | refine bD_ ?_ | refine bA_ ?_ _)); refine blk_put (cs := #[.int .i64 0, .int .i64 0, .int .i64 0, .slice none 0 0]) ?_ 0 _ rfl; (with_reducible repeat (first | refine bN_ ?_ _ | refine bD_ ?_ | refine bA_ ?_ _)); exact BK251.out) Tryz.underlying50 rfl zb6) rfl ?_
        exact ⟨_, zb3, by first | exact Kd.R_nil _ _ _ _ _ | exact Kd.N_nil _ _ _ _ _ | exact Kd.V_nil _ _ _ _ _ | exact Kd.Q_nil _ _ _ _ _ | exact Kd.S_nil _ _ _ _ _, by repeat (first | (with_reducible first | exact HB.out | apply below_alloc | apply pw_below_drewN | apply below_drew1 | refine below_set ?_ GE251.out | refine below_set ?_ GE264.out) | exact HB.out)⟩
      ·rw [if_neg c75] at H
       have c75b0 : (t269.toList == a0.toList) = false := beq_eq_false_iff_ne.mpr c75
       have c75b1 : (t269.toList != a0.toList) = true := bne_iff_ne.mpr c75
       simp only [Option.some.injEq, Prod.mk.injEq] at H
       obtain ⟨rfl, rfl, rfl, rfl, rfl⟩ := H
       have hnb125 := NB264_251.out
       have hnc125 := NB251_264.out
       obtain ⟨hcz126_0, hcz126_1, hcz126_2, hcz126_3, hfz126_0, hfz126_1, hfz126_2, hfz126_3⟩ := blk_4 BK264.out
       exact impl_ReadVersion.zl2
    ·rw [if_neg c9] at H
     exact absurd H (by simp)
   ·rw [if_neg c7] at H
    exact absurd H (by simp)
  ·rw [if_neg c5] at H
   exact absurd H (by simp)
 ·rw [if_neg c4] at H
  have c4b0 : ((t255.length : Int) == 3) = false := beq_eq_false_iff_ne.mpr c4
  have c4b1 : ((t255.length : Int) != 3) = true := bne_iff_ne.mpr c4
  simp only [Option.some.injEq, Prod.mk.injEq] at H
  obtain ⟨rfl, rfl, rfl, rfl, rfl⟩ := H
  go_enter Tryz.func31, Tryz.ntmps31
  go_wp2_with (first | ((with_reducible refine gate_dst (N := 2) rfl ?_); refine box_event ?hg (N := 2) ?hd (cs := #[.int .i64 0, .int .i64 0, .int .i64 0, .slice none 0 0]) (t := 50) ?hr ?_; (case hd => rfl); (case hg => rfl); (case hr => first | (go_simp; done) | (go_simp; rfl)); intro gb251 hg w129 hbox hb; have n0_ := Aside0.mk (below_step zb0 hb); have n1_ := Aside0.mk (hbox); have n2_ := Aside0.mk ((by rw [hg]; exact (below_size zb0) : w.heap.size ≤ gb251)); have n3_ := Aside0.mk ((by rw [hg]; exact (below_size zb0) : w.heap.size ≤ gb251)); clear HB; have HB := n0_; have BK251 := n1_; have GW251 := n2_; have GE251 := n3_; clear n0_ n1_ n2_ n3_; clear hb hbox hg) | ((with_reducible refine gate_callee (f := 57) rfl ?_); refine goesL_ (some 11) rfl rfl Tryz.func57 zb6 rfl #[.string a0, .string (⟨#[45]⟩ : ByteArray)] rfl zb1 ?_; (with_reducible refine (strings_Cut.calls a0 (⟨#[45]⟩ : ByteArray) t252 t253 t254 _ ?side1 A2.out).mono ?_); (case side1 => exact Glob.below HGM.out zb7); rintro e w' ⟨rfl, ⟨nd, rfl⟩⟩; refine ⟨_, rfl, ?_⟩; (try (rw [drewN_self w129]; generalize hq_ : World.drewN w129 _ = w129; have n0_ : Aside0 (w129.heap[gb251]? = some (.cells #[.int .i64 0, .int .i64 0, .int .i64 0, .slice none 0 0] 50 (0, 0))) := ⟨by rw [← hq_]; exact (by (with_reducible repeat (first | refine bN_ ?_ _ | refine bD_ ?_ | refine bA_ ?_ _)); exact BK251.out)⟩; have n1_ : Aside0 (Below w.heap.size w w129) := ⟨by rw [← hq_]; exact zb7⟩; clear BK251 HB hq_; have BK251 := n0_; have HB := n1_; clear n0_ n1_))) | ((with_reducible refine gate_callee (f := 58) rfl ?_); refine goesL_ (some 16) rfl rfl Tryz.func58 zb6 rfl #[.string t252, .string (⟨#[46]⟩ : ByteArray)] rfl zb1 ?_; (with_reducible refine (strings_Split.calls t252 (⟨#[46]⟩ : ByteArray) t255 _ ?side1 A3.out).mono ?_); (case side1 => exact Glob.below HGM.out zb7); rintro e w130 ⟨v256, rfl, ho0, hb⟩; refine ⟨_, rfl, ?_⟩; have n0_ := Aside0.mk (Kd.R_lower ho0 (below_size zb7)); have n1_ := Aside0.mk (blk_below (g := gb251) (o := .cells #[.int .i64 0, .int .i64 0, .int .i64 0, .slice none 0 0] 50 (0, 0)) (by (with_reducible repeat (first | refine bN_ ?_ _ | refine bD_ ?_ | refine bA_ ?_ _)); exact BK251.out) hb); have n2_ := Aside0.mk (below_step zb7 hb); clear BK251; clear HB; have HO257 := n0_; have BK251 := n1_; have HB := n2_; clear n0_ n1_ n2_; (try clear hb); (try clear ho0); obtain ⟨Ao131, co131, eo131⟩ := Kd.R_slice HO257.out; subst eo131; obtain ⟨hcz132_0, hcz132_1, hcz132_2, hcz132_3, hfz132_0, hfz132_1, hfz132_2, hfz132_3⟩ := blk_4 BK251.out))
  refine bodyPost_ret (results_ct rfl _ _ gb251 50 #[.int .i64 0, .int .i64 0, .int .i64 0, .slice none 0 0] (0, 0) _ rfl (by (with_reducible repeat (first | refine bN_ ?_ _ | refine bD_ ?_ | refine bA_ ?_ _)); refine blk_put (cs := #[.int .i64 0, .int .i64 0, .int .i64 0, .slice none 0 0]) ?_ 3 _ rfl; (with_reducible repeat (first | refine bN_ ?_ _ | refine bD_ ?_ | refine bA_ ?_ _)); refine blk_put (cs := #[.int .i64 0, .int .i64 0, .int .i64 0, .slice none 0 0]) ?_ 2 _ rfl; (with_reducible repeat (first | refine bN_ ?_ _ | refine bD_ ?_ | refine bA_ ?_ _)); refine blk_put (cs := #[.int .i64 0, .int .i64 0, .int .i64 0, .slice none 0 0]) ?_ 1 _ rfl; (with_reducible repeat (first | refine bN_ ?_ _ | refine bD_ ?_ | refine bA_ ?_ _)); refine blk_put (cs := #[.int .i64 0, .int .i64 0, .int .i64 0, .slice none 0 0]) ?_ 0 _ rfl; (with_reducible repeat (first | refine bN_ ?_ _ | refine bD_ ?_ | refine bA_ ?_ _)); exact BK251.out) Tryz.underlying50 rfl zb6) rfl ?_
  exact ⟨_, zb3, by first | exact Kd.R_nil _ _ _ _ _ | exact Kd.N_nil _ _ _ _ _ | exact Kd.V_nil _ _ _ _ _ | exact Kd.Q_nil _ _ _ _ _ | exact Kd.S_nil _ _ _ _ _, by repeat (first | (with_reducible first | exact HB.out | apply below_alloc | apply pw_below_drewN | apply below_drew1 | refine below_set ?_ GE251.out) | exact HB.out)⟩
end Go.Proofs.YtbepbfibanmhoaaGreatDoor.G

