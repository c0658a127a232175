/- A part of the proof that the law FnExactOrder answers true at every input that its row speaks of. Conditions: the row's own. -/
import Derived.Test.YtieohddolkeegaaGreatDoorOpZ
import Derived.Test.YtieohddolkeegaaGreatDoorMFnExactOrder2
import Derived.Test.YtieohddolkeegaaGreatDoorMFnExactOrder0
import Derived.Test.YtieohddolkeegaaGreatDoorMFnExactOrder6
import Derived.Test.YtieohddolkeegaaGreatDoorMFnExactOrder1
import Derived.Lib.AtoiAll
import Derived.Lib.ItoaNum
import Derived.Test.YtieohddolkeegaaGreatDoorKFnExactOrder0
import Derived.Lib.Strings
import Derived.Lib.Join
section
namespace Go.Proofs.YtieohddolkeegaaGreatDoor.G
open Go.RowKit Go.Proofs.YtieohddolkeegaaGreatDoorW.PrintWords Go.Proofs.YtieohddolkeegaaGreatDoorW.PrintLast Go.Proofs.YtieohddolkeegaaGreatDoorW.PrintMore
attribute [local go_sem] max2_int min2_int max_two min_two max_three min_three max_four min_four
attribute [local go_sem high] Go.Proofs.YtieohddolkeegaaGreatDoor.G.str_gtr Go.Proofs.YtieohddolkeegaaGreatDoor.G.str_leq Go.Proofs.YtieohddolkeegaaGreatDoor.G.str_geq
set_option linter.unusedVariables false
set_option linter.unusedSimpArgs false
set_option maxHeartbeats 8000000 in
set_option maxRecDepth 100000 in
theorem laws_FnExactOrder.calls (k : Nat) (A0_0 : Option Addr) (c0_0 : Nat) (l0_0 : List ByteArray) (A0_1 : Option Addr) (c0_1 : Nat) (l0_1 : List (S139)) (r : Bool) (w : World) (hr0_0 : Kd.C Kd.string w A0_0 l0_0.length l0_0) (hc0_0 : l0_0.length ≤ c0_0) (hr0_1 : Kd.C k139 w A0_1 l0_1.length l0_1) (hc0_1 : l0_1.length ≤ c0_1) (hGE : Glob FactE w) (hGM : Glob FactM w) (hGT : Glob FactT w) (hr_ : r = true) (h : laws_FnExactOrder.f k l0_0 l0_1 = some r) :
  Calls Tryz.prog 5 #[.agg #[.slice A0_0 l0_0.length c0_0, .slice A0_1 l0_1.length c0_1]] w fun e w' => e = .returned (.bool r) ∧ Below w.heap.size w w' := by
 have hu54 := Tryz.underlying54
 have hu39 := Tryz.underlying39
 have HR0_0 := am hr0_0
 have HC0_0 := am hc0_0
 clear hr0_0 hc0_0
 have HR0_1 := am hr0_1
 have HC0_1 := am hc0_1
 clear hr0_1 hc0_1
 have HB := am (Below.refl w.heap.size w)
 have HGE := am hGE
 clear hGE
 have HGM := am hGM
 clear hGM
 have HGT := am hGT
 clear hGT
 have H : ((laws_szGraph.f k l0_0 l0_1 1048576).bind fun t490 => (if t490 < 0 then (some true) else ((laws_toGraph.f k l0_0 l0_1).bind fun bt491 => ((spec_Order.f k bt491.1 bt491.2).bind fun bt497 => ((laws_toGraph.f k l0_0 l0_1).bind fun bt501 => ((impl_Order.f k bt501.1 bt501.2).bind fun bt508 => ((laws_eqStringS.f k bt508.1 bt497.1).bind fun t512 => (if t512 = true then (laws_FnExactOrder.j0 k bt497.1 bt497.2 bt508.1 bt508.2 (bt508.2 != bt497.2) l0_0 l0_1 bt501.1 bt501.2) else (laws_FnExactOrder.j0 k bt497.1 bt497.2 bt508.1 bt508.2 true l0_0 l0_1 bt501.1 bt501.2))))))))) = some r := h
 clear h
 replace H := Option.bind_eq_some_iff.mp H
 obtain ⟨t490, A20, H⟩ := H
 try dsimp only at H
 have A2 := am A20
 clear A20
 by_cases c3 : t490 < 0
 ·rw [if_pos c3] at H
  have c3b0 : decide (t490 < 0) = true := decide_eq_true c3
  clear c3
  obtain rfl := Option.some.inj H
  go_enter Tryz.func5, Tryz.ntmps5
  go_wp2_with (first | ((with_reducible refine gate_dst (N := 1) rfl ?_); refine box_event ?hg (N := 1) ?hd (cs := #[.slice A0_0 l0_0.length c0_0, .slice A0_1 l0_1.length c0_1]) (t := 54) ?hr ?_; (case hd => rfl); (case hg => rfl); (case hr => exact zb13); intro gb489 hg w4 hbox hb; have BK489 := am hbox; have GW489 := am ((by rw [hg]; exact (below_size zb0) : w.heap.size ≤ gb489)); have GE489 := am ((by rw [hg]; exact (below_size zb0) : w.heap.size ≤ gb489)); replace HB := am (below_step zb0 hb); clear hb hbox hg; have hcz5_0 : w4.cell? ⟨gb489, 0, none⟩ = some (.slice A0_0 l0_0.length c0_0) := bc BK489.out 0; have hcz5_1 : w4.cell? ⟨gb489, 1, none⟩ = some (.slice A0_1 l0_1.length c0_1) := bc BK489.out 1; have hfz5_0 := blk_frozen BK489.out 0; have hfz5_1 := blk_frozen BK489.out 1) | ((with_reducible refine gate_callee (f := 33) rfl ?_); refine goesL_ (some 16) rfl rfl Tryz.func33 zb17 rfl #[.agg #[.slice A0_0 l0_0.length c0_0, .slice A0_1 l0_1.length c0_1], .int .i64 1048576] rfl zb4 ?_; (with_reducible refine (laws_szGraph.calls k _ _ l0_0 _ _ l0_1 1048576 t490 _ ?side1 ?side2 ?side3 ?side4 ?side5 ?side6 ?side7 A2.out).mono ?_); (case side1 => exact zb7); (case side2 => exact HC0_0.out); (case side3 => exact zb8); (case side4 => exact HC0_1.out); (case side5 => exact Glob.below HGE.out zb5); (case side6 => exact Glob.below HGM.out zb5); (case side7 => exact Glob.below HGT.out zb5); rintro e w6 ⟨rfl, hb⟩; refine ⟨_, rfl, ?_⟩; replace BK489 := am (blk_below (g := gb489) (o := .cells #[.slice A0_0 l0_0.length c0_0, .slice A0_1 l0_1.length c0_1] 54 (0, 0)) (zB BK489.out) hb); replace HB := am (below_step zb5 hb); (try clear hb)))
  go_ret
  exact ⟨zb12, zb5⟩
 ·rw [if_neg c3] at H
  have c3b0 : decide (t490 < 0) = false := decide_eq_false c3
  clear c3
  replace H := Option.bind_eq_some_iff.mp H
  obtain ⟨⟨t491, t494⟩, A70, H⟩ := H
  try dsimp only at H
  have A7 := am A70
  clear A70
  replace H := Option.bind_eq_some_iff.mp H
  obtain ⟨⟨t497, t500⟩, A80, H⟩ := H
  try dsimp only at H
  have A8 := am A80
  clear A80
  replace H := Option.bind_eq_some_iff.mp H
  obtain ⟨⟨t501, t504⟩, A90, H⟩ := H
  try dsimp only at H
  have A9 := am A90
  clear A90
  replace H := Option.bind_eq_some_iff.mp H
  obtain ⟨⟨t508, t511⟩, A100, H⟩ := H
  try dsimp only at H
  have A10 := am A100
  clear A100
  have HC11 := am H
  clear H
  go_enter Tryz.func5, Tryz.ntmps5
  go_upto_region 8 with (first | ((with_reducible refine gate_dst (N := 1) rfl ?_); refine box_event ?hg (N := 1) ?hd (cs := #[.slice A0_0 l0_0.length c0_0, .slice A0_1 l0_1.length c0_1]) (t := 54) ?hr ?_; (case hd => rfl); (case hg => rfl); (case hr => exact zb13); intro gb489 hg w12 hbox hb; have BK489 := am hbox; have GW489 := am ((by rw [hg]; exact (below_size zb0) : w.heap.size ≤ gb489)); have GE489 := am ((by rw [hg]; exact (below_size zb0) : w.heap.size ≤ gb489)); replace HB := am (below_step zb0 hb); clear hb hbox hg; have hcz13_0 : w12.cell? ⟨gb489, 0, none⟩ = some (.slice A0_0 l0_0.length c0_0) := bc BK489.out 0; have hcz13_1 : w12.cell? ⟨gb489, 1, none⟩ = some (.slice A0_1 l0_1.length c0_1) := bc BK489.out 1; have hfz13_0 := blk_frozen BK489.out 0; have hfz13_1 := blk_frozen BK489.out 1) | ((with_reducible refine gate_callee (f := 33) rfl ?_); refine goesL_ (some 16) rfl rfl Tryz.func33 zb17 rfl #[.agg #[.slice A0_0 l0_0.length c0_0, .slice A0_1 l0_1.length c0_1], .int .i64 1048576] rfl zb4 ?_; (with_reducible refine (laws_szGraph.calls k _ _ l0_0 _ _ l0_1 1048576 t490 _ ?side1 ?side2 ?side3 ?side4 ?side5 ?side6 ?side7 A2.out).mono ?_); (case side1 => exact zb7); (case side2 => exact HC0_0.out); (case side3 => exact zb8); (case side4 => exact HC0_1.out); (case side5 => exact Glob.below HGE.out zb5); (case side6 => exact Glob.below HGM.out zb5); (case side7 => exact Glob.below HGT.out zb5); rintro e w14 ⟨rfl, hb⟩; refine ⟨_, rfl, ?_⟩; replace BK489 := am (blk_below (g := gb489) (o := .cells #[.slice A0_0 l0_0.length c0_0, .slice A0_1 l0_1.length c0_1] 54 (0, 0)) (zB BK489.out) hb); replace HB := am (below_step zb5 hb); (try clear hb); have hcz15_0 : w14.cell? ⟨gb489, 0, none⟩ = some (.slice A0_0 l0_0.length c0_0) := bc BK489.out 0; have hcz15_1 : w14.cell? ⟨gb489, 1, none⟩ = some (.slice A0_1 l0_1.length c0_1) := bc BK489.out 1; have hfz15_0 := blk_frozen BK489.out 0; have hfz15_1 := blk_frozen BK489.out 1) | ((with_reducible refine gate_callee (f := 34) rfl ?_); refine goesL_ (some 21) rfl rfl Tryz.func34 zb17 rfl #[.agg #[.slice A0_0 l0_0.length c0_0, .slice A0_1 l0_1.length c0_1]] rfl zb4 ?_; (with_reducible refine (laws_toGraph.calls k _ _ l0_0 _ _ l0_1 t491 t494 _ ?side1 ?side2 ?side3 ?side4 A7.out).mono ?_); (case side1 => exact zb7); (case side2 => exact HC0_0.out); (case side3 => exact zb8); (case side4 => exact HC0_1.out); rintro e w16 ⟨v492, v495, rfl, ho0, ho1, hb⟩; refine ⟨_, rfl, ?_⟩; have HO493 := am (Kd.R_lower ho0 (below_size zb5)); have HO496 := am (Kd.S_lower ho1 (below_size zb5)); replace BK489 := am (blk_below (g := gb489) (o := .cells #[.slice A0_0 l0_0.length c0_0, .slice A0_1 l0_1.length c0_1] 54 (0, 0)) (zB BK489.out) hb); replace HB := am (below_step zb5 hb); (try clear hb); (try clear ho0); (try clear ho1); obtain ⟨Ao17, co17, eo17⟩ := Kd.R_slice HO493.out; subst eo17; obtain ⟨Ao18, co18, eo18⟩ := Kd.S_slice HO496.out; subst eo18) | ((with_reducible refine gate_callee (f := 26) rfl ?_); refine goesL_ (some 22) rfl rfl Tryz.func26 zb17 rfl #[.agg #[.slice Ao17 t491.length co17, .slice Ao18 t494.length co18]] rfl zb4 ?_; (with_reducible refine (spec_Order.calls k _ _ t491 _ _ t494 t497 t500 _ ?side1 ?side2 ?side3 ?side4 ?side5 ?side6 ?side7 A8.out).mono ?_); (case side1 => repeat (first | exact (Kd.R_reads' HO493.out).2.2 | (with_reducible refine Kd.C_alloc ?_ _) | (with_reducible refine Kd.C_drewN ?_ _) | (with_reducible refine Kd.C_drew ?_))); (case side2 => exact (Kd.R_reads' HO493.out).2.1); (case side3 => repeat (first | exact (Kd.S_reads' HO496.out).2.2 | (with_reducible refine Kd.C_alloc ?_ _) | (with_reducible refine Kd.C_drewN ?_ _) | (with_reducible refine Kd.C_drew ?_))); (case side4 => exact (Kd.S_reads' HO496.out).2.1); (case side5 => exact Glob.below HGE.out zb5); (case side6 => exact Glob.below HGM.out zb5); (case side7 => exact Glob.below HGT.out zb5); rintro e w19 ⟨v498, rfl, ho0, hb⟩; refine ⟨_, rfl, ?_⟩; replace HO496 := am (Kd.S_elder' zb30 (Kd.R_base ho0) hb); have HO499 := am (Kd.R_lower (Kd.R_new' ho0 (Kd.R_lt (zR HO493.out))) (below_size zb5)); replace HO493 := am (Kd.R_elder' (zR HO493.out) (Kd.R_base ho0) hb); replace BK489 := am (blk_below (g := gb489) (o := .cells #[.slice A0_0 l0_0.length c0_0, .slice A0_1 l0_1.length c0_1] 54 (0, 0)) (zB BK489.out) hb); replace HB := am (below_step zb5 hb); (try clear hb); (try clear ho0); have hcz20_0 : w19.cell? ⟨gb489, 0, none⟩ = some (.slice A0_0 l0_0.length c0_0) := bc BK489.out 0; have hcz20_1 : w19.cell? ⟨gb489, 1, none⟩ = some (.slice A0_1 l0_1.length c0_1) := bc BK489.out 1; have hfz20_0 := blk_frozen BK489.out 0; have hfz20_1 := blk_frozen BK489.out 1) | ((with_reducible refine gate_callee (f := 34) rfl ?_); refine goesL_ (some 26) rfl rfl Tryz.func34 zb17 rfl #[.agg #[.slice A0_0 l0_0.length c0_0, .slice A0_1 l0_1.length c0_1]] rfl zb4 ?_; (with_reducible refine (laws_toGraph.calls k _ _ l0_0 _ _ l0_1 t501 t504 _ ?side1 ?side2 ?side3 ?side4 A9.out).mono ?_); (case side1 => exact zb7); (case side2 => exact HC0_0.out); (case side3 => exact zb8); (case side4 => exact HC0_1.out); rintro e w21 ⟨v502, v505, rfl, ho0, ho1, hb⟩; refine ⟨_, rfl, ?_⟩; have HO503 := am (Kd.R_lower (Kd.R_new' (Kd.R_new' ho0 (Kd.R_lt (zR HO493.out))) (Kd.R_lt (zR HO499.out))) (below_size zb5)); have HO506 := am (Kd.S_lower (Kd.S_new' (Kd.S_new' (Kd.S_new' ho1 (Kd.R_lt (zR HO493.out))) (Kd.S_lt zb30)) (Kd.R_lt (zR HO499.out))) (below_size zb5)); replace HO493 := am (Kd.R_elder' (zR HO493.out) (Kd.R_base ho0) hb); replace HO496 := am (Kd.S_mono (Kd.S_told (Kd.S_told (Kd.S_old zb30 hb) (Kd.R_base ho0)) (Kd.S_base ho1)) (fun _ h_ => h_.1)); replace HO499 := am (Kd.R_elder' (zR HO499.out) (Kd.R_base ho0) hb); replace BK489 := am (blk_below (g := gb489) (o := .cells #[.slice A0_0 l0_0.length c0_0, .slice A0_1 l0_1.length c0_1] 54 (0, 0)) (zB BK489.out) hb); replace HB := am (below_step zb5 hb); (try clear hb); (try clear ho0); (try clear ho1)) | ((with_reducible refine gate_dst (N := 6) rfl ?_); refine box_event ?hg (N := 6) ?hd (cs := #[.slice none 0 0, .slice none 0 0]) (t := 39) ?hr ?_; (case hd => rfl); (case hg => rfl); (case hr => exact zb13); intro gb507 hg w22 hbox hb; replace HO493 := am (Kd.R_below (zR HO493.out) hb); replace HO496 := am (Kd.S_below zb30 hb); replace HO499 := am (Kd.R_below (zR HO499.out) hb); replace HO503 := am (Kd.R_below (zR HO503.out) hb); replace HO506 := am (Kd.S_below (by (with_reducible repeat (first | apply Kd.S_alloc | apply Kd.S_drewN | apply Kd.S_drew)); exact HO506.out) hb); have BK507 := am hbox; have GW507 := am ((by rw [hg]; exact (below_size zb5) : w.heap.size ≤ gb507)); have GE507 := am ((by rw [hg]; exact (below_size zb5) : w.heap.size ≤ gb507)); replace HB := am (below_step zb5 hb); have NB489_507 := am ((by rw [hg]; exact Nat.ne_of_lt (blk_lt (g := gb489) (o := .cells #[.slice A0_0 l0_0.length c0_0, .slice A0_1 l0_1.length c0_1] 54 (0, 0)) (zB BK489.out)) : gb489 ≠ gb507)); have NB507_489 := am ((by rw [hg]; exact Nat.ne_of_gt (blk_lt (g := gb489) (o := .cells #[.slice A0_0 l0_0.length c0_0, .slice A0_1 l0_1.length c0_1] 54 (0, 0)) (zB BK489.out)) : gb507 ≠ gb489)); replace BK489 := am (blk_below (g := gb489) (o := .cells #[.slice A0_0 l0_0.length c0_0, .slice A0_1 l0_1.length c0_1] 54 (0, 0)) (zB BK489.out) hb); clear hb hbox hg; obtain ⟨Ao23, co23, eo23⟩ := Kd.R_slice HO503.out; subst eo23; have hnb24 := NB507_489.out; have hnc24 := NB489_507.out; have hcz25_0 : w22.cell? ⟨gb507, 0, none⟩ = some (.slice none 0 0) := bc BK507.out 0; have hcz25_1 : w22.cell? ⟨gb507, 1, none⟩ = some (.slice none 0 0) := bc BK507.out 1; have hfz25_0 := blk_frozen BK507.out 0; have hfz25_1 := blk_frozen BK507.out 1; obtain ⟨Ao26, co26, eo26⟩ := Kd.S_slice HO506.out; subst eo26) | ((with_reducible refine gate_callee (f := 25) rfl ?_); refine goesL_ (some 29) rfl rfl Tryz.func25 zb17 rfl #[.agg #[.slice Ao23 t501.length co23, .slice Ao26 t504.length co26]] rfl zb4 ?_; (with_reducible refine (impl_Order.calls k _ _ t501 _ _ t504 t508 t511 _ ?side1 ?side2 ?side3 ?side4 ?side5 ?side6 ?side7 A10.out).mono ?_); (case side1 => exact (by refine (Kd.R_reads' (e := 9) (base := w.heap.size) (ok := fun k_ => ((True ∧ some k_ ≠ (.slice Ao17 t491.length co17 : Value).ownBlock) ∧ some k_ ≠ (v498 : Value).ownBlock)) (n := t501.length) (c := co23) ?_).2.2; exact (zR (Kd.R_mono (Kd.R_far (p := ⟨gb507, 1, none⟩) (Kd.R_far (p := ⟨gb507, 0, none⟩) (Kd.R_types HO503.out BK507.out zb36) (fun _ hk => hk.2) (.slice Ao23 t501.length co23)) (fun _ hk => hk.2) (.slice Ao26 t504.length co26)) (fun _ h_ => h_.1))))); (case side2 => exact (Kd.R_reads' HO503.out).2.1); (case side3 => exact (by refine (Kd.S_reads' (e := 47) (base := w.heap.size) (ok := fun k_ => (((some k_ ≠ (.slice Ao23 t501.length co23 : Value).ownBlock ∧ some k_ ≠ (.slice Ao17 t491.length co17 : Value).ownBlock) ∧ some k_ ≠ (.slice Ao18 t494.length co18 : Value).ownBlock) ∧ some k_ ≠ (v498 : Value).ownBlock)) (n := t504.length) (c := co26) ?_).2.2; exact zb26)); (case side4 => exact (Kd.S_reads' HO506.out).2.1); (case side5 => exact Glob.below HGE.out zb2); (case side6 => exact Glob.below HGM.out zb2); (case side7 => exact Glob.below HGT.out zb2); rintro e w27 ⟨v509, rfl, ho0, hb⟩; refine ⟨_, rfl, ?_⟩; replace HO496 := am (Kd.S_elder' (by (with_reducible repeat (first | apply Kd.S_alloc | apply Kd.S_drewN | apply Kd.S_drew)); exact (Kd.S_mono (Kd.S_far (p := ⟨gb507, 1, none⟩) (Kd.S_far (p := ⟨gb507, 0, none⟩) (Kd.S_types HO496.out BK507.out zb36) (fun _ hk => hk.2) (.slice Ao23 t501.length co23)) (fun _ hk => hk.2) (.slice Ao26 t504.length co26)) (fun _ h_ => h_.1))) (Kd.R_base ho0) hb); replace HO506 := am (Kd.S_elder' zb26 (Kd.R_base ho0) hb); have HO510 := am (Kd.R_lower (Kd.R_new' (Kd.R_new' (Kd.R_new' ho0 (Kd.R_lt (zR (Kd.R_mono (Kd.R_far (p := ⟨gb507, 1, none⟩) (Kd.R_far (p := ⟨gb507, 0, none⟩) (Kd.R_types HO493.out BK507.out zb36) (fun _ hk => hk.2) (.slice Ao23 t501.length co23)) (fun _ hk => hk.2) (.slice Ao26 t504.length co26)) (fun _ h_ => h_.1))))) (Kd.R_lt (zR (Kd.R_mono (Kd.R_far (p := ⟨gb507, 1, none⟩) (Kd.R_far (p := ⟨gb507, 0, none⟩) (Kd.R_types HO499.out BK507.out zb36) (fun _ hk => hk.2) (.slice Ao23 t501.length co23)) (fun _ hk => hk.2) (.slice Ao26 t504.length co26)) (fun _ h_ => h_.1))))) (Kd.R_lt (zR (Kd.R_mono (Kd.R_far (p := ⟨gb507, 1, none⟩) (Kd.R_far (p := ⟨gb507, 0, none⟩) (Kd.R_types HO503.out BK507.out zb36) (fun _ hk => hk.2) (.slice Ao23 t501.length co23)) (fun _ hk => hk.2) (.slice Ao26 t504.length co26)) (fun _ h_ => h_.1))))) (below_size zb2)); replace HO493 := am (Kd.R_elder' (zR (Kd.R_mono (Kd.R_far (p := ⟨gb507, 1, none⟩) (Kd.R_far (p := ⟨gb507, 0, none⟩) (Kd.R_types HO493.out BK507.out zb36) (fun _ hk => hk.2) (.slice Ao23 t501.length co23)) (fun _ hk => hk.2) (.slice Ao26 t504.length co26)) (fun _ h_ => h_.1))) (Kd.R_base ho0) hb); replace HO499 := am (Kd.R_elder' (zR (Kd.R_mono (Kd.R_far (p := ⟨gb507, 1, none⟩) (Kd.R_far (p := ⟨gb507, 0, none⟩) (Kd.R_types HO499.out BK507.out zb36) (fun _ hk => hk.2) (.slice Ao23 t501.length co23)) (fun _ hk => hk.2) (.slice Ao26 t504.length co26)) (fun _ h_ => h_.1))) (Kd.R_base ho0) hb); replace HO503 := am (Kd.R_elder' (zR (Kd.R_mono (Kd.R_far (p := ⟨gb507, 1, none⟩) (Kd.R_far (p := ⟨gb507, 0, none⟩) (Kd.R_types HO503.out BK507.out zb36) (fun _ hk => hk.2) (.slice Ao23 t501.length co23)) (fun _ hk => hk.2) (.slice Ao26 t504.length co26)) (fun _ h_ => h_.1))) (Kd.R_base ho0) hb); replace BK489 := am (blk_below (g := gb489) (o := .cells #[.slice A0_0 l0_0.length c0_0, .slice A0_1 l0_1.length c0_1] 54 (0, 0)) (by (with_reducible repeat (first | refine bN_ ?_ _ | refine bD_ ?_ | refine bA_ ?_ _)); refine blk_far ?_ NB489_507.out _; (with_reducible repeat (first | refine bN_ ?_ _ | refine bD_ ?_ | refine bA_ ?_ _)); refine blk_far ?_ NB489_507.out _; (with_reducible repeat (first | refine bN_ ?_ _ | refine bD_ ?_ | refine bA_ ?_ _)); exact BK489.out) hb); replace BK507 := am (blk_below (g := gb507) (o := .cells #[.slice Ao23 t501.length co23, .slice Ao26 t504.length co26] 39 (0, 0)) (by (with_reducible repeat (first | refine bN_ ?_ _ | refine bD_ ?_ | refine bA_ ?_ _)); refine blk_put (cs := #[.slice Ao23 t501.length co23, .slice none 0 0]) ?_ 1 _ rfl; (with_reducible repeat (first | refine bN_ ?_ _ | refine bD_ ?_ | refine bA_ ?_ _)); refine blk_put (cs := #[.slice none 0 0, .slice none 0 0]) ?_ 0 _ rfl; (with_reducible repeat (first | refine bN_ ?_ _ | refine bD_ ?_ | refine bA_ ?_ _)); exact BK507.out) hb); replace HB := am (below_step zb2 hb); (try clear hb); (try clear ho0)))
  (try simp only [Act.put, List.setIfInBounds_toArray, List.set_cons_zero, List.set_cons_succ])
  go_cut [40] (fun v40 wc => ∃ (kq : Nat) (x40_10 : Bool), v40 = .bool x40_10 ∧ Aside0 (laws_FnExactOrder.j0 kq t497 t500 t508 t511 x40_10 l0_0 l0_1 t501 t504 = some r) ∧ Aside0 (kq ≤ k) ∧ Aside0 (Kd.R Kd.string 9 wc w.heap.size (fun k_ => some k_ ≠ (v509 : Value).ownBlock ∧ some k_ ≠ ((.slice Ao23 t501.length co23) : Value).ownBlock) v498 t497) ∧ Aside0 (Kd.R Kd.string 9 wc w.heap.size (fun k_ => some k_ ≠ (v498 : Value).ownBlock ∧ some k_ ≠ ((.slice Ao23 t501.length co23) : Value).ownBlock) v509 t508) ∧ Aside0 (Kd.R Kd.string 9 wc w.heap.size (fun k_ => some k_ ≠ (v498 : Value).ownBlock ∧ some k_ ≠ (v509 : Value).ownBlock) (.slice Ao23 t501.length co23) t501) ∧ Aside0 (Kd.S k47 47 wc w.heap.size (fun k_ => some k_ ≠ (v498 : Value).ownBlock ∧ some k_ ≠ (v509 : Value).ownBlock ∧ some k_ ≠ ((.slice Ao23 t501.length co23) : Value).ownBlock) (.slice Ao26 t504.length co26) t504) ∧ Aside0 (wc.heap[gb489]? = some (.cells #[(.slice A0_0 l0_0.length c0_0), (.slice A0_1 l0_1.length c0_1)] 54 (0, 0))) ∧ Aside0 (wc.heap[gb507]? = some (.cells #[(.slice Ao23 t501.length co23), (.slice Ao26 t504.length co26)] 39 (0, 0))) ∧ Aside0 (Below w.heap.size w wc))
  case first =>
   have H := HC11.out
   clear HC11
   replace H := Option.bind_eq_some_iff.mp H
   obtain ⟨t512, A280, H⟩ := H
   try dsimp only at H
   have A28 := am A280
   clear A280
   by_cases c29 : t512 = true
   ·subst c29
    rw [if_pos rfl] at H
    have H' := am H
    clear H
    obtain ⟨Ao30, co30, eo30⟩ := Kd.R_slice HO510.out
    subst eo30
    obtain ⟨Ao31, co31, eo31⟩ := Kd.R_slice HO499.out
    subst eo31
    go_wp2_with (first | ((with_reducible refine gate_callee (f := 35) rfl ?_); refine goesL_ (some 34) rfl rfl Tryz.func35 zb17 rfl #[.slice Ao30 t508.length co30, .slice Ao31 t497.length co31] rfl zb4 ?_; (with_reducible refine (laws_eqStringS.calls k _ _ t508 _ _ t497 true _ ?side1 ?side2 ?side3 ?side4 A28.out).mono ?_); (case side1 => exact zb37); (case side2 => exact (Kd.R_reads' HO510.out).2.1); (case side3 => exact zb38); (case side4 => exact (Kd.R_reads' HO499.out).2.1); rintro e w' ⟨rfl, ⟨nd, rfl⟩⟩; refine ⟨_, rfl, ?_⟩))
    go_meet
    case rel => exact ⟨_, ((t511 != t500)), zb3, H', ⟨(by first | omega | exact Nat.le_refl _)⟩, ⟨zb43⟩, ⟨zb41⟩, ⟨zb42⟩, ⟨zb40⟩, ⟨(zB BK489.out)⟩, ⟨(zB BK507.out)⟩, ⟨zb2⟩⟩
   ·replace c29 := Bool.eq_false_iff.mpr c29
    subst c29
    rw [if_neg (show ¬ (false = true) by decide)] at H
    have H' := am H
    clear H
    obtain ⟨Ao32, co32, eo32⟩ := Kd.R_slice HO510.out
    subst eo32
    obtain ⟨Ao33, co33, eo33⟩ := Kd.R_slice HO499.out
    subst eo33
    go_wp2_with (first | ((with_reducible refine gate_callee (f := 35) rfl ?_); refine goesL_ (some 34) rfl rfl Tryz.func35 zb17 rfl #[.slice Ao32 t508.length co32, .slice Ao33 t497.length co33] rfl zb4 ?_; (with_reducible refine (laws_eqStringS.calls k _ _ t508 _ _ t497 false _ ?side1 ?side2 ?side3 ?side4 A28.out).mono ?_); (case side1 => exact zb37); (case side2 => exact (Kd.R_reads' HO510.out).2.1); (case side3 => exact zb38); (case side4 => exact (Kd.R_reads' HO499.out).2.1); rintro e w' ⟨rfl, ⟨nd, rfl⟩⟩; refine ⟨_, rfl, ?_⟩))
    go_meet
    case rel => exact ⟨_, (true), zb3, H', ⟨(by first | omega | exact Nat.le_refl _)⟩, ⟨zb43⟩, ⟨zb41⟩, ⟨zb42⟩, ⟨zb40⟩, ⟨(zB BK489.out)⟩, ⟨(zB BK507.out)⟩, ⟨zb2⟩⟩
  case rest =>
   clear HC11
   try clear c2
   try clear p2
   try clear c3
   try clear c3b0
   try clear c5
   try clear c24
   try clear c25
   try clear c26
   try clear c29
   try clear c33
   try clear hcz13_0
   try clear hcz13_1
   try clear hcz15_0
   try clear hcz15_1
   try clear hcz20_0
   try clear hcz20_1
   try clear hcz25_0
   try clear hcz25_1
   try clear hcz5_0
   try clear hcz5_1
   try clear hfz13_0
   try clear hfz13_1
   try clear hfz15_0
   try clear hfz15_1
   try clear hfz20_0
   try clear hfz20_1
   try clear hfz25_0
   try clear hfz25_1
   try clear hfz5_0
   try clear hfz5_1
   obtain ⟨kq, x40_10, rfl, HA, HJ10, HO_4, HO_7, HO_508000, HO_508001, BK489, BK507, HB⟩ := hcut
   cases kq with
   | zero => exact absurd HA.out (by simp [laws_FnExactOrder.j0])
   | succ kj10 =>
    have H := HA.out
    clear HA
    simp only [laws_FnExactOrder.j0] at H
    by_cases c34 : x40_10 = true
    ·subst c34
     rw [if_pos rfl] at H
     exact absurd ((Option.some.inj H).trans hr_) zb36
    ·replace c34 := Bool.eq_false_iff.mpr c34
     subst c34
     rw [if_neg (show ¬ (false = true) by decide)] at H
     replace H := Option.bind_eq_some_iff.mp H
     obtain ⟨⟨t513, t516⟩, A350, H⟩ := H
     try dsimp only at H
     have A35 := am A350
     clear A350
     replace H := Option.bind_eq_some_iff.mp H
     obtain ⟨t519, A360, H⟩ := H
     try dsimp only at H
     have A36 := am A360
     clear A360
     by_cases c37 : t519 = true
     ·subst c37
      rw [if_pos rfl] at H
      replace H := Option.bind_eq_some_iff.mp H
      obtain ⟨t520, A380, H⟩ := H
      try dsimp only at H
      have A38 := am A380
      clear A380
      have HC39 := am H
      clear H
      try go_wp2
      replace HO_4 := am (Kd.R_drew HO_4.out)
      replace HO_7 := am (Kd.R_drew HO_7.out)
      replace HO_508000 := am (Kd.R_drew HO_508000.out)
      replace HO_508001 := am (Kd.S_drew HO_508001.out)
      replace BK489 := am (blk_drew BK489.out)
      replace BK507 := am (blk_drew BK507.out)
      replace HB := am (below_drew1 HB.out)
      refine start_ (n := 5) (S := fun w' => w'.cell? ⟨gb507, 0, none⟩ = some (.slice Ao23 t501.length co23) ∧ w'.cell? ⟨gb507, 1, none⟩ = some (.slice Ao26 t504.length co26) ∧ w'.cell? ⟨gb489, 0, none⟩ = some (.slice A0_0 l0_0.length c0_0) ∧ w'.cell? ⟨gb489, 1, none⟩ = some (.slice A0_1 l0_1.length c0_1)) (ds := []) #[false, false, false, false, false] zb17 rfl rfl ⟨(blk_cell BK507.out 0).trans rfl, (blk_cell BK507.out 1).trans rfl, (blk_cell BK489.out 0).trans rfl, (blk_cell BK489.out 1).trans rfl⟩ (fun hHeld => ?_)
      generalize wc.drew = w40 at HO_4 HO_7 HO_508000 HO_508001 BK489 BK507 HB hHeld ⊢
      refine take_ (i := 0) (N := some 41) (v := ?_) (a' := ?_) #[true, false, false, false, false] rfl rfl zb17 (fun _ _ _ h => h) (Or.inl ⟨by rfl, ?_⟩) hHeld ?_ ?_
      rotate_left
      ·rintro w' ⟨s0, s1, s2, s3⟩
       go_simp
       with_reducible rfl
      rotate_left
      ·simp only [Act.put, List.setIfInBounds_toArray, List.set_cons_zero, List.set_cons_succ, i64_w, i32_w]
       rfl
      refine take_ (i := 1) (N := some 42) (v := ?_) (a' := ?_) #[true, true, false, false, false] rfl rfl zb17 (fun _ _ _ h => h) (Or.inl ⟨by rfl, ?_⟩) hHeld ?_ ?_
      rotate_left
      ·rintro w' ⟨s0, s1, s2, s3⟩
       go_simp
       with_reducible rfl
      rotate_left
      ·simp only [Act.put, List.setIfInBounds_toArray, List.set_cons_zero, List.set_cons_succ, i64_w, i32_w]
       rfl
      refine one_ (i := 2) (N := some 43) #[true, true, true, false, false] rfl rfl zb17 zb36 (fun K hK => ?_)
      refine goes_ Tryz.func34 zb17 rfl #[.agg #[.slice A0_0 l0_0.length c0_0, .slice A0_1 l0_1.length c0_1]] (by rfl) rfl rfl zb4 ?_
      with_reducible refine (laws_toGraph.calls kj10 _ _ l0_0 _ _ l0_1 t513 t516 _ ?side1 ?side2 ?side3 ?side4 A35.out).mono ?_
      (case side1 => exact zb7)
      (case side2 => exact HC0_0.out)
      (case side3 => exact zb8)
      (case side4 => exact HC0_1.out)
      rintro e w41 ⟨v514, v517, rfl, ho0, ho1, hb⟩
      refine ⟨_, rfl, ?_⟩
      have HO515 := am (Kd.R_lower (Kd.R_new' (Kd.R_new' (Kd.R_new' ho0 (Kd.R_lt (zR HO_4.out))) (Kd.R_lt (zR HO_7.out))) (Kd.R_lt (zR HO_508000.out))) (below_size zb2))
      have HO518 := am (Kd.S_lower (Kd.S_new' (Kd.S_new' (Kd.S_new' (Kd.S_new' ho1 (Kd.R_lt (zR HO_4.out))) (Kd.R_lt (zR HO_7.out))) (Kd.R_lt (zR HO_508000.out))) (Kd.S_lt zb16)) (below_size zb2))
      replace HO_4 := am (Kd.R_elder' (zR HO_4.out) (Kd.R_base ho0) hb)
      replace HO_7 := am (Kd.R_elder' (zR HO_7.out) (Kd.R_base ho0) hb)
      replace HO_508000 := am (Kd.R_elder' (zR HO_508000.out) (Kd.R_base ho0) hb)
      replace HO_508001 := am (Kd.S_mono (Kd.S_told (Kd.S_told (Kd.S_old zb16 hb) (Kd.R_base ho0)) (Kd.S_base ho1)) (fun _ h_ => h_.1))
      replace BK489 := am (blk_below (g := gb489) (o := .cells #[.slice A0_0 l0_0.length c0_0, .slice A0_1 l0_1.length c0_1] 54 (0, 0)) (zB BK489.out) hb)
      replace BK507 := am (blk_below (g := gb507) (o := .cells #[.slice Ao23 t501.length co23, .slice Ao26 t504.length co26] 39 (0, 0)) (zB BK507.out) hb)
      replace HB := am (below_step zb2 hb)
      (try clear hb)
      (try clear ho0)
      (try clear ho1)
      obtain ⟨Ao42, co42, eo42⟩ := Kd.R_slice HO515.out
      (first | subst eo42 | (injection eo42 with f1_ f2_ f3_; have f4_ := f1_.symm; have f5_ := f3_.symm; clear f1_ f2_ f3_; subst f4_; subst f5_))
      obtain ⟨Ao43, co43, eo43⟩ := Kd.S_slice HO518.out
      (first | subst eo43 | (injection eo43 with f1_ f2_ f3_; have f4_ := f1_.symm; have f5_ := f3_.symm; clear f1_ f2_ f3_; subst f4_; subst f5_))
      refine hK.out _ _ ⟨(blk_cell BK507.out 0).trans rfl, (blk_cell BK507.out 1).trans rfl, (blk_cell BK489.out 0).trans rfl, (blk_cell BK489.out 1).trans rfl⟩ (fun hHeld => ?_)
      clear hK K
      refine norm_ (a' := ?_) ?_ ?_
      rotate_left
      ·show Act.put _ (some 43) _ = _
       simp only [Act.put, List.setIfInBounds_toArray, List.set_cons_zero, List.set_cons_succ, i64_w, i32_w]
       rfl
      refine one_ (i := 3) (N := some 44) #[true, true, true, true, false] rfl rfl zb17 zb36 (fun K hK => ?_)
      refine goes_ Tryz.func36 zb17 rfl #[.agg #[.slice Ao23 t501.length co23, .slice Ao26 t504.length co26], .agg #[.slice Ao42 t513.length co42, .slice Ao43 t516.length co43]] (by rfl) rfl rfl zb4 ?_
      with_reducible refine (laws_eqGraph.calls kj10 _ _ t501 _ _ t504 _ _ t513 _ _ t516 true _ ?side1 ?side2 ?side3 ?side4 ?side5 ?side6 ?side7 ?side8 ?side9 ?side10 ?side11 A36.out).mono ?_
      (case side1 => repeat (first | exact (Kd.R_reads' HO_508000.out).2.2 | (with_reducible refine Kd.C_alloc ?_ _) | (with_reducible refine Kd.C_drewN ?_ _) | (with_reducible refine Kd.C_drew ?_)))
      (case side2 => exact (Kd.R_reads' HO_508000.out).2.1)
      (case side3 => repeat (first | exact (Kd.S_reads' HO_508001.out).2.2 | (with_reducible refine Kd.C_alloc ?_ _) | (with_reducible refine Kd.C_drewN ?_ _) | (with_reducible refine Kd.C_drew ?_)))
      (case side4 => exact (Kd.S_reads' HO_508001.out).2.1)
      (case side5 => repeat (first | exact (Kd.R_reads' HO515.out).2.2 | (with_reducible refine Kd.C_alloc ?_ _) | (with_reducible refine Kd.C_drewN ?_ _) | (with_reducible refine Kd.C_drew ?_)))
      (case side6 => exact (Kd.R_reads' HO515.out).2.1)
      (case side7 => repeat (first | exact (Kd.S_reads' HO518.out).2.2 | (with_reducible refine Kd.C_alloc ?_ _) | (with_reducible refine Kd.C_drewN ?_ _) | (with_reducible refine Kd.C_drew ?_)))
      (case side8 => exact (Kd.S_reads' HO518.out).2.1)
      (case side9 => exact Glob.below HGE.out zb2)
      (case side10 => exact Glob.below HGM.out zb2)
      (case side11 => exact Glob.below HGT.out zb2)
      rintro e w44 ⟨rfl, hb⟩
      refine ⟨_, rfl, ?_⟩
      replace HO_4 := am (Kd.R_below (zR HO_4.out) hb)
      replace HO_7 := am (Kd.R_below (zR HO_7.out) hb)
      replace HO_508000 := am (Kd.R_below (zR HO_508000.out) hb)
      replace HO_508001 := am (Kd.S_below zb16 hb)
      replace HO515 := am (Kd.R_below (zR HO515.out) hb)
      replace HO518 := am (Kd.S_below (by (with_reducible repeat (first | apply Kd.S_alloc | apply Kd.S_drewN | apply Kd.S_drew)); exact HO518.out) hb)
      replace BK489 := am (blk_below (g := gb489) (o := .cells #[.slice A0_0 l0_0.length c0_0, .slice A0_1 l0_1.length c0_1] 54 (0, 0)) (zB BK489.out) hb)
      replace BK507 := am (blk_below (g := gb507) (o := .cells #[.slice Ao23 t501.length co23, .slice Ao26 t504.length co26] 39 (0, 0)) (zB BK507.out) hb)
      replace HB := am (below_step zb2 hb)
      (try clear hb)
      refine hK.out _ _ ⟨(blk_cell BK507.out 0).trans rfl, (blk_cell BK507.out 1).trans rfl, (blk_cell BK489.out 0).trans rfl, (blk_cell BK489.out 1).trans rfl⟩ (fun hHeld => ?_)
      clear hK K
      refine norm_ (a' := ?_) ?_ ?_
      rotate_left
      ·show Act.put _ (some 44) _ = _
       simp only [Act.put, List.setIfInBounds_toArray, List.set_cons_zero, List.set_cons_succ, i64_w, i32_w]
       rfl
      refine pure_ (i := 4) (N := some 45) (v := ?_) (a' := ?_) #[true, true, true, true, true] rfl rfl zb17 (fun _ _ _ h => h) (Or.inl ⟨by rfl, ?_⟩) ?_ ?_
      rotate_left
      ·intro w'
       go_simp
       with_reducible rfl
      rotate_left
      ·simp only [Act.put, List.setIfInBounds_toArray, List.set_cons_zero, List.set_cons_succ, i64_w, i32_w]
       rfl
      refine done_ zb17 ?_
      have hnb45 := NB507_489.out
      have hnc45 := NB489_507.out
      have hcz46_0 : w44.cell? ⟨gb507, 0, none⟩ = some (.slice Ao23 t501.length co23) := bc BK507.out 0
      have hcz46_1 : w44.cell? ⟨gb507, 1, none⟩ = some (.slice Ao26 t504.length co26) := bc BK507.out 1
      have hfz46_0 := blk_frozen BK507.out 0
      have hfz46_1 := blk_frozen BK507.out 1
      go_upto_region 14 with (first | ((with_reducible refine gate_callee (f := 37) rfl ?_); refine goesL_ (some 48) rfl rfl Tryz.func37 zb17 rfl #[.agg #[.slice Ao23 t501.length co23, .slice Ao26 t504.length co26], .int .i64 1] rfl zb4 ?_; (with_reducible refine (laws_markGraph.callsM _ _ _ _ t501 _ _ t504 1 t520 w _ HB.out HO_508000.out (Kd.S_types (Kd.S_types HO_508001.out BK489.out zb36) BK507.out zb36) ?side1 ?side2 A38.out).mono ?_); (case side1 => intro k_ hk_; replace hk_ := hk_.1.1; first | exact hk_.1.1.2.2 | exact hk_.1.2.2 | exact hk_.2.2 | (simp at hk_ ⊢; exact hk_.1.1.2.2)); (case side2 => exact (by intro k_ hk_; (repeat' apply And.intro) <;> (intro e_; first | (exact absurd e_ (Nat.ne_of_gt (Nat.lt_of_lt_of_le (blk_lt BK489.out) hk_))) | (exact absurd e_ (Nat.ne_of_gt (Nat.lt_of_lt_of_le (blk_lt BK507.out) hk_))) | (have := Kd.R_lt HO_4.out k_ e_.symm; omega) | (have := Kd.R_lt HO_7.out k_ e_.symm; omega) | (have := Kd.R_lt HO_508000.out k_ e_.symm; omega) | (have := Kd.S_lt HO_508001.out k_ e_.symm; omega) | (have := Kd.R_lt HO515.out k_ e_.symm; omega) | (have := Kd.S_lt HO518.out k_ e_.symm; omega)))); rintro e w47 ⟨m_0, m_1, rfl, hR_, hS_, hB_, hK_⟩; refine ⟨_, rfl, ?_⟩; have q0_ := am (R_mine HO_4.out hK_ (fun k_ hk_ hp_ => hp_.elim (fun h_ => by have h2_ := HO_4.out.1 k_ hk_; first | exact h2_.1.2 h_ | exact h2_.2 h_ | exact h2_.1.1.2 h_) (fun h_ => by have h2_ := h_.1.1; first | exact h2_.1.1.1 hk_.symm | exact h2_.1.1.2.1 hk_.symm | exact h2_.1.1.2.2 hk_.symm))); have q1_ := am (R_mine HO_7.out hK_ (fun k_ hk_ hp_ => hp_.elim (fun h_ => by have h2_ := HO_7.out.1 k_ hk_; first | exact h2_.1.2 h_ | exact h2_.2 h_ | exact h2_.1.1.2 h_) (fun h_ => by have h2_ := h_.1.1; first | exact h2_.1.1.1 hk_.symm | exact h2_.1.1.2.1 hk_.symm | exact h2_.1.1.2.2 hk_.symm))); have b0_ := am (blk_kept BK489.out hK_ (fun hp_ => hp_.elim (fun h_ => by have := Kd.R_typed HO_508000.out _ h_.symm; obtain ⟨cs_, this⟩ := this; rw [BK489.out] at this; injection this with this; injection this with _ this; exact absurd this zb36) (fun h_ => by have h2_ := h_; first | exact h2_.2 rfl | exact h2_.1.2 rfl))); have b1_ := am (blk_kept BK507.out hK_ (fun hp_ => hp_.elim (fun h_ => by have := Kd.R_typed HO_508000.out _ h_.symm; obtain ⟨cs_, this⟩ := this; rw [BK507.out] at this; injection this with this; injection this with _ this; exact absurd this zb36) (fun h_ => by have h2_ := h_; first | exact h2_.2 rfl | exact h2_.1.2 rfl))); clear HO_4 HO_7 BK489 BK507 HO_508000 HO_508001 HO515 HO518 HB; have HO_4 := q0_; have HO_7 := q1_; have BK489 := b0_; have BK507 := b1_; have HO_508000 := am hR_; have HO_508001 := am (Kd.S_mono hS_ (fun _ hk_ => hk_.1.1)); have HB := am hB_; clear hR_ hS_ hB_ hK_ q0_ q1_ b0_ b1_))
      (try simp only [Act.put, List.setIfInBounds_toArray, List.set_cons_zero, List.set_cons_succ])
      go_cut [61] (fun v61 wc => ∃ (kq : Nat) (x61_38 : Bool), v61 = .bool x61_38 ∧ Aside0 (laws_FnExactOrder.j1 kq t497 t500 t508 x61_38 l0_0 l0_1 = some r) ∧ Aside0 (kq ≤ kj10) ∧ Aside0 (Kd.R Kd.string 9 wc w.heap.size (fun k_ => some k_ ≠ (v509 : Value).ownBlock ∧ some k_ ≠ ((.slice Ao23 t501.length co23) : Value).ownBlock) v498 t497) ∧ Aside0 (Kd.R Kd.string 9 wc w.heap.size (fun k_ => some k_ ≠ (v498 : Value).ownBlock ∧ some k_ ≠ ((.slice Ao23 t501.length co23) : Value).ownBlock) v509 t508) ∧ Aside0 (Kd.R Kd.string 9 wc w.heap.size (fun k_ => some k_ ≠ (v498 : Value).ownBlock ∧ some k_ ≠ (v509 : Value).ownBlock) (.slice Ao23 t501.length co23) m_0) ∧ Aside0 (Kd.S k47 47 wc w.heap.size (fun k_ => some k_ ≠ (v498 : Value).ownBlock ∧ some k_ ≠ (v509 : Value).ownBlock ∧ some k_ ≠ ((.slice Ao23 t501.length co23) : Value).ownBlock) (.slice Ao26 t504.length co26) m_1) ∧ Aside0 (wc.heap[gb489]? = some (.cells #[(.slice A0_0 l0_0.length c0_0), (.slice A0_1 l0_1.length c0_1)] 54 (0, 0))) ∧ Aside0 (wc.heap[gb507]? = some (.cells #[(.slice Ao23 t501.length co23), (.slice Ao26 t504.length co26)] 39 (0, 0))) ∧ Aside0 (Below w.heap.size w wc))
      case first =>
       have H := HC39.out
       clear HC39
       by_cases c48 : t520 < 0
       ·rw [if_pos c48] at H
        have c48b0 : decide (t520 < 0) = true := decide_eq_true c48
        clear c48
        (first | rw [c48b0] | (simp only [i64_w, i32_w]; rw [c48b0]) | skip)
        have H' := am H
        clear H
        go_wp2
        go_meet
        case rel => exact ⟨_, (true), zb3, H', ⟨by have := HJ10.out; first | omega | exact Nat.le_refl _⟩, ⟨zb33⟩, ⟨zb32⟩, ⟨zb31⟩, ⟨zb25⟩, ⟨(zB BK489.out)⟩, ⟨(zB BK507.out)⟩, ⟨zb2⟩⟩
       ·rw [if_neg c48] at H
        have c48b0 : decide (t520 < 0) = false := decide_eq_false c48
        clear c48
        (first | rw [c48b0] | (simp only [i64_w, i32_w]; rw [c48b0]) | skip)
        replace H := Option.bind_eq_some_iff.mp H
        obtain ⟨t521, A490, H⟩ := H
        try dsimp only at H
        have A49 := am A490
        clear A490
        by_cases c50 : t521 = true
        ·subst c50
         rw [if_pos rfl] at H
         have H' := am H
         clear H
         obtain ⟨Ao51, co51, eo51⟩ := Kd.R_slice HO_7.out
         subst eo51
         obtain ⟨Ao52, co52, eo52⟩ := Kd.R_slice HO_4.out
         subst eo52
         go_wp2_with (first | (go_at_call 35; (with_reducible refine (laws_eqStringS.calls kj10 _ _ t508 _ _ t497 true _ ?side1 ?side2 ?side3 ?side4 A49.out).mono ?_); (case side1 => exact zb18); (case side2 => exact (Kd.R_reads' HO_7.out).2.1); (case side3 => exact zb9); (case side4 => exact (Kd.R_reads' HO_4.out).2.1); rintro e w' ⟨rfl, ⟨nd, rfl⟩⟩))
         go_meet
         case rel => exact ⟨_, ((t511 != t500)), zb3, H', ⟨by have := HJ10.out; first | omega | exact Nat.le_refl _⟩, ⟨zb33⟩, ⟨zb32⟩, ⟨zb31⟩, ⟨zb25⟩, ⟨(zB BK489.out)⟩, ⟨(zB BK507.out)⟩, ⟨zb2⟩⟩
        ·replace c50 := Bool.eq_false_iff.mpr c50
         subst c50
         rw [if_neg (show ¬ (false = true) by decide)] at H
         have H' := am H
         clear H
         obtain ⟨Ao53, co53, eo53⟩ := Kd.R_slice HO_7.out
         subst eo53
         obtain ⟨Ao54, co54, eo54⟩ := Kd.R_slice HO_4.out
         subst eo54
         go_wp2_with (first | (go_at_call 35; (with_reducible refine (laws_eqStringS.calls kj10 _ _ t508 _ _ t497 false _ ?side1 ?side2 ?side3 ?side4 A49.out).mono ?_); (case side1 => exact zb18); (case side2 => exact (Kd.R_reads' HO_7.out).2.1); (case side3 => exact zb9); (case side4 => exact (Kd.R_reads' HO_4.out).2.1); rintro e w' ⟨rfl, ⟨nd, rfl⟩⟩))
         go_meet
         case rel => exact ⟨_, (true), zb3, H', ⟨by have := HJ10.out; first | omega | exact Nat.le_refl _⟩, ⟨zb33⟩, ⟨zb32⟩, ⟨zb31⟩, ⟨zb25⟩, ⟨(zB BK489.out)⟩, ⟨(zB BK507.out)⟩, ⟨zb2⟩⟩
      case rest =>
       clear HC39
       try clear c2
       try clear p2
       try clear c3
       try clear c3b0
       try clear c4
       try clear c5
       try clear c24
       try clear c25
       try clear c26
       try clear c29
       try clear c33
       try clear c34
       try clear c35
       try clear c36
       try clear c37
       try clear c45
       try clear c48
       try clear c48b0
       try clear c50
       try clear hcz13_0
       try clear hcz13_1
       try clear hcz15_0
       try clear hcz15_1
       try clear hcz20_0
       try clear hcz20_1
       try clear hcz25_0
       try clear hcz25_1
       try clear hcz46_0
       try clear hcz46_1
       try clear hcz5_0
       try clear hcz5_1
       try clear hfz13_0
       try clear hfz13_1
       try clear hfz15_0
       try clear hfz15_1
       try clear hfz20_0
       try clear hfz20_1
       try clear hfz25_0
       try clear hfz25_1
       try clear hfz46_0
       try clear hfz46_1
       try clear hfz5_0
       try clear hfz5_1
       try clear p2
       obtain ⟨kq, x61_38, rfl, HA, HJ38, HO_4, HO_7, HO_508000, HO_508001, BK489, BK507, HB⟩ := hcut
       cases kq with
       | zero => exact absurd HA.out (by simp [laws_FnExactOrder.j1])
       | succ kj38 =>
        have H := HA.out
        clear HA
        simp only [laws_FnExactOrder.j1] at H
        by_cases c55 : x61_38 = true
        ·subst c55
         rw [if_pos rfl] at H
         exact absurd ((Option.some.inj H).trans hr_) zb36
        ·replace c55 := Bool.eq_false_iff.mpr c55
         subst c55
         rw [if_neg (show ¬ (false = true) by decide)] at H
         replace H := Option.bind_eq_some_iff.mp H
         obtain ⟨⟨t522, t523⟩, A560, H⟩ := H
         try dsimp only at H
         have A56 := am A560
         clear A560
         replace H := Option.bind_eq_some_iff.mp H
         obtain ⟨t524, A570, H⟩ := H
         try dsimp only at H
         have A57 := am A570
         clear A570
         by_cases c58 : t524 < 0
         ·rw [if_pos c58] at H
          have c58b0 : decide (t524 < 0) = true := decide_eq_true c58
          clear c58
          exact absurd ((Option.some.inj H).trans hr_) zb36
         ·rw [if_neg c58] at H
          have c58b0 : decide (t524 < 0) = false := decide_eq_false c58
          clear c58
          by_cases c59 : t524 = t522
          ·rw [if_pos c59] at H
           have c59b0 : (t524 == t522) = true := beq_iff_eq.mpr c59
           have c59b1 : (t524 != t522) = false := bne_eq_false_iff_eq.mpr c59
           clear c59
           replace H := Option.bind_eq_some_iff.mp H
           obtain ⟨⟨t525, t528⟩, A600, H⟩ := H
           try dsimp only at H
           have A60 := am A600
           clear A600
           replace H := Option.bind_eq_some_iff.mp H
           obtain ⟨⟨t531, t534⟩, A610, H⟩ := H
           try dsimp only at H
           have A61 := am A610
           clear A610
           have HC62 := am H
           clear H
           obtain ⟨Ao63, co63, eo63⟩ := Kd.R_slice HO_7.out
           subst eo63
           go_upto_region 25 with (first | ((with_reducible refine gate_callee (f := 38) rfl ?_); refine goesL_ (some 64) rfl rfl Tryz.func38 zb17 rfl #[.slice Ao63 t508.length co63, .int .i64 1] rfl zb4 ?_; (with_reducible refine (laws_markStringS.calls kj38 (fun k_ => some k_ = (.slice Ao63 t508.length co63 : Value).ownBlock) (.slice Ao63 t508.length co63) t508 1 t522 t523 w _ ?side1 ?side2 A56.out).mono ?_); (case side1 => exact zb2); (case side2 => exact Kd.R_tight rfl HO_7.out); rintro e w64 ⟨rfl, hy0, hb, hkp⟩; refine ⟨_, rfl, ?_⟩; replace HO_4 := am (Kd.R_mono (ok' := fun k_ => some k_ ≠ (.slice Ao63 t508.length co63 : Value).ownBlock ∧ some k_ ≠ (.slice Ao23 t501.length co23 : Value).ownBlock) (Kd.R_keptB (HO_4.out) hkp (fun k_ hk_ hs_ => (hk_.1) hs_)) (fun k_ hk_ => ⟨hk_.1.1, hk_.1.2⟩)); replace HO_508000 := am (Kd.R_mono (ok' := fun k_ => some k_ ≠ (v498 : Value).ownBlock ∧ some k_ ≠ (.slice Ao63 t508.length co63 : Value).ownBlock) (Kd.R_keptB (HO_508000.out) hkp (fun k_ hk_ hs_ => (hk_.2) hs_)) (fun k_ hk_ => ⟨hk_.1.1, hk_.1.2⟩)); replace HO_508001 := am (Kd.S_mono (ok' := fun k_ => some k_ ≠ (v498 : Value).ownBlock ∧ some k_ ≠ (.slice Ao63 t508.length co63 : Value).ownBlock ∧ some k_ ≠ (.slice Ao23 t501.length co23 : Value).ownBlock) (Kd.S_keptB (HO_508001.out) hkp (fun k_ hk_ hs_ => (hk_.2.1) hs_)) (fun k_ hk_ => ⟨hk_.1.1, hk_.1.2.1, hk_.1.2.2⟩)); replace BK489 := am (blk_kept (zB BK489.out) hkp (fun hs_ => (fun e_ => (Kd.R_ne HO_7.out BK489.out zb36) e_) hs_)); replace BK507 := am (blk_kept (zB BK507.out) hkp (fun hs_ => (fun e_ => (Kd.R_ne HO_7.out BK507.out zb36) e_) hs_)); replace HO_7 := am (Kd.R_reok rfl hy0 (fun k_ e_ => HO_7.out.1 k_ e_)); replace HB := am hb; (try clear hb); (try clear hkp); (try clear hy0)) | ((with_reducible refine gate_callee (f := 39) rfl ?_); refine goesL_ (some 67) rfl rfl Tryz.func39 zb17 rfl #[.slice Ao63 t523.length co63, .int .i64 1] rfl (by (try simp only [List.map_toArray, List.map_cons, List.map_nil]); first | done | (rw [show t523.length = t508.length from (Kd.R_reads' HO_7.out).1.symm] <;> rfl) | rfl | (simp only [List.length_drop, List.length_take]; rfl)) ?_; (with_reducible refine (laws_heldStringS.calls kj38 _ _ t523 1 t524 _ ?side1 ?side2 A57.out).mono ?_); (case side1 => exact zb18); (case side2 => rw [show t523.length = t508.length from (Kd.R_reads' HO_7.out).1.symm]; exact (Kd.R_reads' HO_7.out).2.1); rintro e w65 ⟨rfl, hb⟩; refine ⟨_, rfl, ?_⟩; replace HO_4 := am (Kd.R_below (zR HO_4.out) hb); replace HO_7 := am (Kd.R_below (zR HO_7.out) hb); replace HO_508000 := am (Kd.R_below (zR HO_508000.out) hb); replace HO_508001 := am (Kd.S_below zb16 hb); replace BK489 := am (blk_below (g := gb489) (o := .cells #[.slice A0_0 l0_0.length c0_0, .slice A0_1 l0_1.length c0_1] 54 (0, 0)) (zB BK489.out) hb); replace BK507 := am (blk_below (g := gb507) (o := .cells #[.slice Ao23 t501.length co23, .slice Ao26 t504.length co26] 39 (0, 0)) (zB BK507.out) hb); replace HB := am (below_step zb2 hb); (try clear hb); have hnb66 := NB489_507.out; have hnc66 := NB507_489.out; have hcz67_0 : w65.cell? ⟨gb489, 0, none⟩ = some (.slice A0_0 l0_0.length c0_0) := bc BK489.out 0; have hcz67_1 : w65.cell? ⟨gb489, 1, none⟩ = some (.slice A0_1 l0_1.length c0_1) := bc BK489.out 1; have hfz67_0 := blk_frozen BK489.out 0; have hfz67_1 := blk_frozen BK489.out 1) | ((with_reducible refine gate_callee (f := 34) rfl ?_); refine goesL_ (some 75) rfl rfl Tryz.func34 zb17 rfl #[.agg #[.slice A0_0 l0_0.length c0_0, .slice A0_1 l0_1.length c0_1]] rfl zb4 ?_; (with_reducible refine (laws_toGraph.calls kj38 _ _ l0_0 _ _ l0_1 t525 t528 _ ?side1 ?side2 ?side3 ?side4 A60.out).mono ?_); (case side1 => exact zb7); (case side2 => exact HC0_0.out); (case side3 => exact zb8); (case side4 => exact HC0_1.out); rintro e w68 ⟨v526, v529, rfl, ho0, ho1, hb⟩; refine ⟨_, rfl, ?_⟩; have HO527 := am (Kd.R_lower (Kd.R_new' (Kd.R_new' (Kd.R_new' ho0 (Kd.R_lt (zR HO_4.out))) (Kd.R_lt (zR HO_7.out))) (Kd.R_lt (zR HO_508000.out))) (below_size zb2)); have HO530 := am (Kd.S_lower (Kd.S_new' (Kd.S_new' (Kd.S_new' (Kd.S_new' ho1 (Kd.R_lt (zR HO_4.out))) (Kd.R_lt (zR HO_7.out))) (Kd.R_lt (zR HO_508000.out))) (Kd.S_lt zb16)) (below_size zb2)); replace HO_4 := am (Kd.R_elder' (zR HO_4.out) (Kd.R_base ho0) hb); replace HO_7 := am (Kd.R_elder' (zR HO_7.out) (Kd.R_base ho0) hb); replace HO_508000 := am (Kd.R_elder' (zR HO_508000.out) (Kd.R_base ho0) hb); replace HO_508001 := am (Kd.S_mono (Kd.S_told (Kd.S_told (Kd.S_old zb16 hb) (Kd.R_base ho0)) (Kd.S_base ho1)) (fun _ h_ => h_.1)); replace BK489 := am (blk_below (g := gb489) (o := .cells #[.slice A0_0 l0_0.length c0_0, .slice A0_1 l0_1.length c0_1] 54 (0, 0)) (zB BK489.out) hb); replace BK507 := am (blk_below (g := gb507) (o := .cells #[.slice Ao23 t501.length co23, .slice Ao26 t504.length co26] 39 (0, 0)) (zB BK507.out) hb); replace HB := am (below_step zb2 hb); (try clear hb); (try clear ho0); (try clear ho1); obtain ⟨Ao69, co69, eo69⟩ := Kd.R_slice HO527.out; subst eo69; obtain ⟨Ao70, co70, eo70⟩ := Kd.S_slice HO530.out; subst eo70) | ((with_reducible refine gate_callee (f := 25) rfl ?_); refine goesL_ (some 76) rfl rfl Tryz.func25 zb17 rfl #[.agg #[.slice Ao69 t525.length co69, .slice Ao70 t528.length co70]] rfl zb4 ?_; (with_reducible refine (impl_Order.calls kj38 _ _ t525 _ _ t528 t531 t534 _ ?side1 ?side2 ?side3 ?side4 ?side5 ?side6 ?side7 A61.out).mono ?_); (case side1 => repeat (first | exact (Kd.R_reads' HO527.out).2.2 | (with_reducible refine Kd.C_alloc ?_ _) | (with_reducible refine Kd.C_drewN ?_ _) | (with_reducible refine Kd.C_drew ?_))); (case side2 => exact (Kd.R_reads' HO527.out).2.1); (case side3 => repeat (first | exact (Kd.S_reads' HO530.out).2.2 | (with_reducible refine Kd.C_alloc ?_ _) | (with_reducible refine Kd.C_drewN ?_ _) | (with_reducible refine Kd.C_drew ?_))); (case side4 => exact (Kd.S_reads' HO530.out).2.1); (case side5 => exact Glob.below HGE.out zb2); (case side6 => exact Glob.below HGM.out zb2); (case side7 => exact Glob.below HGT.out zb2); rintro e w71 ⟨v532, rfl, ho0, hb⟩; refine ⟨_, rfl, ?_⟩; replace HO_508001 := am (Kd.S_elder' zb16 (Kd.R_base ho0) hb); replace HO530 := am (Kd.S_elder' (by (with_reducible repeat (first | apply Kd.S_alloc | apply Kd.S_drewN | apply Kd.S_drew)); exact HO530.out) (Kd.R_base ho0) hb); have HO533 := am (Kd.R_lower (Kd.R_new' (Kd.R_new' (Kd.R_new' (Kd.R_new' ho0 (Kd.R_lt (zR HO_4.out))) (Kd.R_lt (zR HO_7.out))) (Kd.R_lt (zR HO_508000.out))) (Kd.R_lt (zR HO527.out))) (below_size zb2)); replace HO_4 := am (Kd.R_elder' (zR HO_4.out) (Kd.R_base ho0) hb); replace HO_7 := am (Kd.R_elder' (zR HO_7.out) (Kd.R_base ho0) hb); replace HO_508000 := am (Kd.R_elder' (zR HO_508000.out) (Kd.R_base ho0) hb); replace HO527 := am (Kd.R_elder' (zR HO527.out) (Kd.R_base ho0) hb); replace BK489 := am (blk_below (g := gb489) (o := .cells #[.slice A0_0 l0_0.length c0_0, .slice A0_1 l0_1.length c0_1] 54 (0, 0)) (zB BK489.out) hb); replace BK507 := am (blk_below (g := gb507) (o := .cells #[.slice Ao23 t501.length co23, .slice Ao26 t504.length co26] 39 (0, 0)) (zB BK507.out) hb); replace HB := am (below_step zb2 hb); (try clear hb); (try clear ho0)))
           (try simp only [Act.put, List.setIfInBounds_toArray, List.set_cons_zero, List.set_cons_succ])
           go_cut [87] (fun v87 wc => ∃ (kq : Nat) (x87_61 : Bool), v87 = .bool x87_61 ∧ Aside0 (laws_FnExactOrder.j2 kq t523 t522 x87_61 = some r) ∧ Aside0 (kq ≤ kj38) ∧ Aside0 (Kd.R Kd.string 9 wc w.heap.size (fun k_ => some k_ ≠ ((.slice Ao23 t501.length co23) : Value).ownBlock) (.slice Ao63 t508.length co63) t523) ∧ Aside0 (Kd.R Kd.string 9 wc w.heap.size (fun k_ => some k_ ≠ ((.slice Ao63 t508.length co63) : Value).ownBlock) (.slice Ao23 t501.length co23) m_0) ∧ Aside0 (Kd.S k47 47 wc w.heap.size (fun k_ => some k_ ≠ ((.slice Ao63 t508.length co63) : Value).ownBlock ∧ some k_ ≠ ((.slice Ao23 t501.length co23) : Value).ownBlock) (.slice Ao26 t504.length co26) m_1) ∧ Aside0 (wc.heap[gb489]? = some (.cells #[(.slice A0_0 l0_0.length c0_0), (.slice A0_1 l0_1.length c0_1)] 54 (0, 0))) ∧ Aside0 (wc.heap[gb507]? = some (.cells #[(.slice Ao23 t501.length co23), (.slice Ao26 t504.length co26)] 39 (0, 0))) ∧ Aside0 (Below w.heap.size w wc))
           case first =>
            have H := HC62.out
            clear HC62
            replace H := Option.bind_eq_some_iff.mp H
            obtain ⟨t535, A720, H⟩ := H
            try dsimp only at H
            have A72 := am A720
            clear A720
            by_cases c73 : t535 = true
            ·subst c73
             rw [if_pos rfl] at H
             have H' := am H
             clear H
             obtain ⟨Ao74, co74, eo74⟩ := Kd.R_slice HO533.out
             subst eo74
             obtain ⟨Ao75, co75, eo75⟩ := Kd.R_slice HO_4.out
             subst eo75
             go_wp2_with (first | ((with_reducible refine gate_callee (f := 35) rfl ?_); refine goesL_ (some 81) rfl rfl Tryz.func35 zb17 rfl #[.slice Ao74 t531.length co74, .slice Ao75 t497.length co75] rfl zb4 ?_; (with_reducible refine (laws_eqStringS.calls kj38 _ _ t531 _ _ t497 true _ ?side1 ?side2 ?side3 ?side4 A72.out).mono ?_); (case side1 => exact zb35); (case side2 => exact (Kd.R_reads' HO533.out).2.1); (case side3 => exact zb9); (case side4 => exact (Kd.R_reads' HO_4.out).2.1); rintro e w' ⟨rfl, ⟨nd, rfl⟩⟩; refine ⟨_, rfl, ?_⟩))
             go_meet
             case rel => exact ⟨_, ((t534 != t500)), zb3, H', ⟨by have := HJ10.out; have := HJ38.out; first | omega | exact Nat.le_refl _⟩, ⟨(zR (Kd.R_mono HO_7.out (fun _ hk => hk.1.1.2)))⟩, ⟨(zR (Kd.R_mono HO_508000.out (fun _ hk => hk.1.1.2)))⟩, ⟨zb39⟩, ⟨(zB BK489.out)⟩, ⟨(zB BK507.out)⟩, ⟨zb2⟩⟩
            ·replace c73 := Bool.eq_false_iff.mpr c73
             subst c73
             rw [if_neg (show ¬ (false = true) by decide)] at H
             have H' := am H
             clear H
             obtain ⟨Ao76, co76, eo76⟩ := Kd.R_slice HO533.out
             subst eo76
             obtain ⟨Ao77, co77, eo77⟩ := Kd.R_slice HO_4.out
             subst eo77
             go_wp2_with (first | ((with_reducible refine gate_callee (f := 35) rfl ?_); refine goesL_ (some 81) rfl rfl Tryz.func35 zb17 rfl #[.slice Ao76 t531.length co76, .slice Ao77 t497.length co77] rfl zb4 ?_; (with_reducible refine (laws_eqStringS.calls kj38 _ _ t531 _ _ t497 false _ ?side1 ?side2 ?side3 ?side4 A72.out).mono ?_); (case side1 => exact zb35); (case side2 => exact (Kd.R_reads' HO533.out).2.1); (case side3 => exact zb9); (case side4 => exact (Kd.R_reads' HO_4.out).2.1); rintro e w' ⟨rfl, ⟨nd, rfl⟩⟩; refine ⟨_, rfl, ?_⟩))
             go_meet
             case rel => exact ⟨_, (true), zb3, H', ⟨by have := HJ10.out; have := HJ38.out; first | omega | exact Nat.le_refl _⟩, ⟨(zR (Kd.R_mono HO_7.out (fun _ hk => hk.1.1.2)))⟩, ⟨(zR (Kd.R_mono HO_508000.out (fun _ hk => hk.1.1.2)))⟩, ⟨zb39⟩, ⟨(zB BK489.out)⟩, ⟨(zB BK507.out)⟩, ⟨zb2⟩⟩
           case rest =>
            clear HC62
            try clear c2
            try clear p2
            try clear c3
            try clear c3b0
            try clear c4
            try clear c5
            try clear c6
            try clear c7
            try clear c24
            try clear c25
            try clear c26
            try clear c29
            try clear c33
            try clear c34
            try clear c35
            try clear c36
            try clear c37
            try clear c38
            try clear c39
            try clear c45
            try clear c48
            try clear c48b0
            try clear c50
            try clear c55
            try clear c58
            try clear c58b0
            try clear c59
            try clear c59b0
            try clear c59b1
            try clear c66
            try clear c73
            try clear hcz13_0
            try clear hcz13_1
            try clear hcz15_0
            try clear hcz15_1
            try clear hcz20_0
            try clear hcz20_1
            try clear hcz25_0
            try clear hcz25_1
            try clear hcz46_0
            try clear hcz46_1
            try clear hcz5_0
            try clear hcz5_1
            try clear hcz67_0
            try clear hcz67_1
            try clear hfz13_0
            try clear hfz13_1
            try clear hfz15_0
            try clear hfz15_1
            try clear hfz20_0
            try clear hfz20_1
            try clear hfz25_0
            try clear hfz25_1
            try clear hfz46_0
            try clear hfz46_1
            try clear hfz5_0
            try clear hfz5_1
            try clear hfz67_0
            try clear hfz67_1
            try clear p2
            obtain ⟨kq, x87_61, rfl, HA, HJ61, HO_7, HO_508000, HO_508001, BK489, BK507, HB⟩ := hcut
            have hl7_61 := (Kd.R_reads' HO_7.out).1
            rw [hl7_61] at HO_7
            (try simp only [hl7_61])
            (try simp only [hl7_61] at BK489)
            (try simp only [hl7_61] at BK507)
            (try simp only [hl7_61] at HO_508000)
            (try simp only [hl7_61] at HO_508001)
            cases kq with
            | zero => exact absurd HA.out (by simp [laws_FnExactOrder.j2])
            | succ kj61 =>
             have H := HA.out
             clear HA
             simp only [laws_FnExactOrder.j2] at H
             by_cases c78 : x87_61 = true
             ·subst c78
              rw [if_pos rfl] at H
              exact absurd ((Option.some.inj H).trans hr_) zb36
             ·replace c78 := Bool.eq_false_iff.mpr c78
              subst c78
              rw [if_neg (show ¬ (false = true) by decide)] at H
              replace H := Option.bind_eq_some_iff.mp H
              obtain ⟨t536, A790, H⟩ := H
              try dsimp only at H
              have A79 := am A790
              clear A790
              by_cases c80 : t536 < 0
              ·rw [if_pos c80] at H
               have c80b0 : decide (t536 < 0) = true := decide_eq_true c80
               clear c80
               exact absurd ((Option.some.inj H).trans hr_) zb36
              ·rw [if_neg c80] at H
               have c80b0 : decide (t536 < 0) = false := decide_eq_false c80
               clear c80
               by_cases c81 : t536 = t522
               ·rw [if_pos c81] at H
                have c81b0 : (t536 == t522) = true := beq_iff_eq.mpr c81
                have c81b1 : (t536 != t522) = false := bne_eq_false_iff_eq.mpr c81
                clear c81
                obtain rfl := Option.some.inj H
                go_wp2_with (first | ((with_reducible refine gate_callee (f := 39) rfl ?_); refine goesL_ (some 90) rfl rfl Tryz.func39 zb17 rfl #[.slice Ao63 t523.length co63, .int .i64 1] rfl zb4 ?_; (with_reducible refine (laws_heldStringS.calls kj61 _ _ t523 1 t536 _ ?side1 ?side2 A79.out).mono ?_); (case side1 => exact zb18); (case side2 => exact (Kd.R_reads' HO_7.out).2.1); rintro e w82 ⟨rfl, hb⟩; refine ⟨_, rfl, ?_⟩; replace HO_7 := am (Kd.R_below (zR HO_7.out) hb); replace HO_508000 := am (Kd.R_below (zR HO_508000.out) hb); replace HO_508001 := am (Kd.S_below zb16 hb); replace BK489 := am (blk_below (g := gb489) (o := .cells #[.slice A0_0 l0_0.length c0_0, .slice A0_1 l0_1.length c0_1] 54 (0, 0)) (zB BK489.out) hb); replace BK507 := am (blk_below (g := gb507) (o := .cells #[.slice Ao23 t501.length co23, .slice Ao26 t504.length co26] 39 (0, 0)) (zB BK507.out) hb); replace HB := am (below_step zb2 hb); (try clear hb)))
                go_ret
                exact ⟨zb12, zb2⟩
               ·rw [if_neg c81] at H
                have c81b0 : (t536 == t522) = false := beq_eq_false_iff_ne.mpr c81
                have c81b1 : (t536 != t522) = true := bne_iff_ne.mpr c81
                exact absurd ((Option.some.inj H).trans hr_) zb36
          ·rw [if_neg c59] at H
           have c59b0 : (t524 == t522) = false := beq_eq_false_iff_ne.mpr c59
           have c59b1 : (t524 != t522) = true := bne_iff_ne.mpr c59
           exact absurd ((Option.some.inj H).trans hr_) zb36
     ·replace c37 := Bool.eq_false_iff.mpr c37
      subst c37
      rw [if_neg (show ¬ (false = true) by decide)] at H
      exact absurd ((Option.some.inj H).trans hr_) zb36
end Go.Proofs.YtieohddolkeegaaGreatDoor.G

end
section
namespace Go.Proofs.YtieohddolkeegaaGreatDoor.U
open Go Go.RowKit
set_option linter.unusedVariables false
def val10 (a : Nat) : B → Nat
 | [] => a
 | c :: l => val10 (a * 10 + (c.toNat - 48)) l
theorem val10_append : ∀ (l m : B) (a : Nat), val10 a (l ++ m) = val10 (val10 a l) m
 | [], m, a => rfl
 | c :: l, m, a => by rw [List.cons_append]; exact val10_append l m _
def dgt (c : UInt8) : Bool := decide (48 ≤ c.toNat ∧ c.toNat ≤ 57)
theorem dgt_is (c : UInt8) : dgt c = true ↔ 48 ≤ c.toNat ∧ c.toNat ≤ 57 := by unfold dgt; exact decide_eq_true_iff
theorem dgt_of (i : Nat) (h : i < 10) : (UInt8.ofNat (48 + i)).toNat = 48 + i := by rw [UInt8.toNat_ofNat']; omega
theorem decDigits_step (u : Nat) (h : ¬ u < 10) : Lib.decDigits u = Lib.decDigits (u / 10) ++ [UInt8.ofNat (48 + u % 10)] := by
 conv => lhs; unfold Lib.decDigits
 rw [dif_neg h]
theorem dec_digits : ∀ (n u : Nat), u < n → (∀ c ∈ Lib.decDigits u, dgt c = true) ∧ val10 0 (Lib.decDigits u) = u := by
 intro n
 induction n with
 | zero => intro u h; omega
 | succ n ih =>
  intro u hu
  by_cases h : u < 10
  ·rw [Lib.decDigits_one h]
   refine ⟨fun c hc => ?_, ?_⟩
   ·rw [List.mem_singleton] at hc; subst hc; rw [dgt_is, dgt_of u h]; omega
   ·show 0 * 10 + ((UInt8.ofNat (48 + u)).toNat - 48) = u
    rw [dgt_of u h]; omega
  ·rw [decDigits_step u h]
   obtain ⟨h1, h2⟩ := ih (u / 10) (by omega)
   refine ⟨fun c hc => ?_, ?_⟩
   ·rw [List.mem_append, List.mem_singleton] at hc
    rcases hc with hc | rfl
    ·exact h1 c hc
    ·rw [dgt_is, dgt_of _ (Nat.mod_lt _ (by decide))]; omega
   ·rw [val10_append, h2]
    show (u / 10) * 10 + ((UInt8.ofNat (48 + u % 10)).toNat - 48) = u
    rw [dgt_of _ (Nat.mod_lt _ (by decide))]; omega
theorem dec_dgt (u : Nat) : ∀ c ∈ Lib.decDigits u, dgt c = true := (dec_digits (u + 1) u (by omega)).1
theorem dec_val (u : Nat) : val10 0 (Lib.decDigits u) = u := (dec_digits (u + 1) u (by omega)).2
theorem dec_ne (u : Nat) : Lib.decDigits u ≠ [] := by
 intro h
 have := Lib.decDigits_length u
 rw [h] at this
 have := Lib.nDigits_pos u
 simp at *; omega
theorem dec_len_lt (u d : Nat) (h : (Lib.decDigits u).length ≤ d) : u < 10 ^ d := by
 rw [Lib.decDigits_length] at h
 exact Nat.lt_of_lt_of_le (Lib.lt_pow_nDigits u) (Nat.pow_le_pow_right (by decide) h)
theorem dec_len_le : ∀ (d u : Nat), u < 10 ^ (d + 1) → (Lib.decDigits u).length ≤ d + 1 := by
 intro d
 induction d with
 | zero => intro u h; rw [Lib.decDigits_one (by omega)]; simp
 | succ d ih =>
  intro u h
  by_cases h1 : u < 10
  ·rw [Lib.decDigits_one h1]; simp
  ·rw [decDigits_step u h1, List.length_append]
   have := ih (u / 10) (by rw [Nat.div_lt_iff_lt_mul (by decide)]; rw [Nat.pow_succ] at h; exact h)
   simp; omega
theorem val10_lt : ∀ (l : B) (a : Nat), (∀ c ∈ l, dgt c = true) → val10 a l < (a + 1) * 10 ^ l.length
 | [], a, _ => by rw [List.length_nil, Nat.pow_zero]; show a < (a + 1) * 1; omega
 | c :: l, a, h => by
  have hc := (dgt_is c).1 (h c (by simp))
  have := val10_lt l (a * 10 + (c.toNat - 48)) fun x hx => h x (by simp [hx])
  refine Nat.lt_of_lt_of_le this ?_
  rw [List.length_cons, Nat.pow_succ, Nat.mul_comm (10 ^ l.length) 10, ← Nat.mul_assoc]
  exact Nat.mul_le_mul_right _ (by omega)
theorem val10_ge : ∀ (l : B) (a : Nat), a ≤ val10 a l
 | [], a => Nat.le_refl _
 | c :: l, a => Nat.le_trans (by omega) (val10_ge l (a * 10 + (c.toNat - 48)))
def rdec (l : B) : Int := if l.length ≤ 9 ∧ Lib.decDigits (val10 0 l) = l then (val10 0 l : Int) else -1
theorem p9 : (10 : Nat) ^ 9 = 1000000000 := by decide
theorem rdec_dec (u : Nat) (h : u < 1000000000) : rdec (Lib.decDigits u) = u := by
 unfold rdec
 have h9 : (Lib.decDigits u).length ≤ 9 := dec_len_le 8 u (by rw [show 8 + 1 = 9 from rfl, p9]; exact h)
 rw [dec_val, if_pos ⟨h9, rfl⟩]
theorem rdec_some {l : B} (h : ¬ rdec l = -1) : ∃ u : Nat, u < 1000000000 ∧ l = Lib.decDigits u ∧ rdec l = u := by
 unfold rdec at h ⊢
 by_cases hc : l.length ≤ 9 ∧ Lib.decDigits (val10 0 l) = l
 ·refine ⟨val10 0 l, ?_, hc.2.symm, by rw [if_pos hc]⟩
  rw [← p9]; exact dec_len_lt _ 9 (by rw [hc.2]; exact hc.1)
 ·rw [if_neg hc] at h; exact absurd rfl h
theorem rdec_range (l : B) : -1 ≤ rdec l ∧ rdec l ≤ 999999999 := by
 by_cases h : rdec l = -1
 ·omega
 ·obtain ⟨u, h1, _, h2⟩ := rdec_some h; omega
theorem parse_digits : ∀ (l : B) (a : Nat), (∀ c ∈ l, dgt c = true) → val10 a l < 1844674407370955161 → Lib.parseUint10 a l = .ok (val10 a l)
 | [], a, _, _ => rfl
 | c :: l, a, h, hv => by
  have hc := (dgt_is c).1 (h c (by simp))
  have hg := val10_ge l (a * 10 + (c.toNat - 48))
  have hv' : val10 (a * 10 + (c.toNat - 48)) l < 1844674407370955161 := hv
  unfold Lib.parseUint10
  rw [if_pos hc, if_neg (by omega), if_neg (by omega)]
  exact parse_digits l _ (fun x hx => h x (by simp [hx])) hv'
theorem atoi_dec (u : Nat) (h : u < 1000000000) : Lib.atoiAll (Lib.decDigits u) = .ok (u : Int) := by
 have hd := dec_dgt u
 have hv := dec_val u
 have hne := dec_ne u
 generalize Lib.decDigits u = l at *
 cases l with
 | nil => exact absurd rfl hne
 | cons c r =>
  have hc := (dgt_is c).1 (hd c (by simp))
  have hp : Lib.parseMag (c :: r) = .ok u := by
   unfold Lib.parseMag
   rw [if_neg (by simp), parse_digits _ _ hd (by omega), hv]
  unfold Lib.atoiAll
  simp only []
  rw [if_neg (by omega), hp]
  simp only []
  rw [if_neg (by omega), if_neg (by omega), if_neg (by omega)]
end Go.Proofs.YtieohddolkeegaaGreatDoor.U

end
section
namespace Go.Proofs.YtieohddolkeegaaGreatDoor.U
open Go Go.RowKit Go.Proofs.YtieohddolkeegaaGreatDoorW.PrintWords Go.Proofs.YtieohddolkeegaaGreatDoor.G
theorem spec_l01In_eq (a b c : Int) : spec_l01In.f a b c = some (decide (b ≤ a ∧ a ≤ c)) := by
 unfold spec_l01In.f
 by_cases h : a ≥ b
 ·rw [if_pos h]; by_cases h2 : a ≤ c <;> simp [h2] <;> omega
 ·rw [if_neg h]; simp; omega
theorem impl_within_eq (a b c : Int) : impl_within.f a b c = some (decide (b ≤ a ∧ a ≤ c)) := by
 unfold impl_within.f
 by_cases h : b ≤ a
 ·rw [if_pos h]; by_cases h2 : a ≤ c <;> simp [h2, h]
 ·rw [if_neg h]; simp [h]
end Go.Proofs.YtieohddolkeegaaGreatDoor.U

end
section
namespace Go.Proofs.YtieohddolkeegaaGreatDoor.U
open Go Go.RowKit Go.Proofs.YtieohddolkeegaaGreatDoorW.PrintWords Go.Proofs.YtieohddolkeegaaGreatDoor.G
set_option linter.unusedVariables false
set_option linter.unusedSimpArgs false
theorem itoa_nat (u : Nat) : Lib.itoa (u : Int) = Lib.decDigits u := by unfold Lib.itoa; rw [if_neg (by omega)]; simp
theorem rdec_bad {l : B} (h : ∃ c ∈ l, dgt c = false) : rdec l = -1 := by
 unfold rdec
 rw [if_neg]
 rintro ⟨_, e⟩
 obtain ⟨c, hc, hd⟩ := h
 have := dec_dgt (val10 0 l) c (by rw [e]; exact hc)
 rw [hd] at this; cases this
theorem rdec_long {l : B} (h : 9 < l.length) : rdec l = -1 := by
 unfold rdec
 rw [if_neg]
 rintro ⟨e, _⟩; omega
theorem impl_ReadDec_eq (s : ByteArray) (hs : s.size ≤ 1099511627776) : impl_ReadDec.f s = some (rdec (L s)) := by
 unfold impl_ReadDec.f
 rw [if_pos (by omega)]
 show (match Lib.atoiAll (L s) with | .ok n => _ | _ => some (-1)) = _
 by_cases hr : rdec (L s) = -1
 ·rw [hr]
  cases ha : Lib.atoiAll (L s) with
  | ok n =>
   simp only []
   rw [impl_within_eq, Option.bind_some]
   by_cases hn : 0 ≤ n ∧ n ≤ 999999999
   ·rw [if_pos (decide_eq_true hn), impl_DecText_eq n (by omega) (by omega), Option.bind_some, toList_S, toList_L]
    by_cases e : Lib.itoa n = L s
    ·exfalso
     have hu : n = ((n.toNat : Nat) : Int) := by omega
     rw [hu, itoa_nat] at e
     rw [← e, rdec_dec _ (by omega)] at hr
     omega
    ·rw [if_neg e]
   ·rw [if_neg (by simpa using hn)]
  | _ => rfl
 ·obtain ⟨u, hu, hl, hv⟩ := rdec_some hr
  rw [hv, hl, atoi_dec u hu]
  simp only []
  rw [impl_within_eq, Option.bind_some, if_pos (decide_eq_true (by omega)), impl_DecText_eq _ (by omega) (by omega), Option.bind_some, toList_S, toList_L, hl, itoa_nat, if_pos rfl]
theorem step10 (a : Nat) (c : UInt8) (ha : a < 1000000000) (hc : dgt c = true) : wrap64 ((wrap64 ((wrap64 (10 * (a : Int))) + (wrap64 (c.toNat : Int)))) - 48) = ((a * 10 + (c.toNat - 48) : Nat) : Int) := by
 have h := (dgt_is c).1 hc
 rw [w64 (n := 10 * (a : Int)) (by omega) (by omega), w64 (n := (c.toNat : Int)) (by omega) (by omega), w64 (n := 10 * (a : Int) + (c.toNat : Int)) (by omega) (by omega), w64 (by omega) (by omega)]
 omega
theorem spec_ReadDec_ev (s : ByteArray) (hs : s.size ≤ 1099511627776) : Ev (fun k => spec_ReadDec.f k s) (rdec (L s)) := by
 have hsz := size_L s
 have key : ∀ (d i : Nat), i + d = (L s).length → i ≤ 9 → (∀ c ∈ (L s).take i, dgt c = true) → Ev (fun k => spec_ReadDec.l0 k s (val10 0 ((L s).take i) : Int) (i : Int)) (rdec (L s)) := by
  intro d
  induction d with
  | zero =>
   intro i hi h9 hall
   have e : (L s).take i = L s := List.take_of_length_le (by omega)
   rw [e] at hall ⊢
   have hlt : val10 0 (L s) < 1000000000 := by
    have := val10_lt (L s) 0 hall
    have h2 : 10 ^ (L s).length ≤ 10 ^ 9 := Nat.pow_le_pow_right (by decide) (by omega)
    rw [p9] at h2; omega
   have hd := spec_DecText_ev ((val10 0 (L s) : Nat) : Int) (by omega) (by omega)
   rw [itoa_nat] at hd
   refine Ev.step (f := fun k => if s.toList = ([] : List UInt8) then some (-1) else (spec_DecText.f k ((val10 0 (L s) : Nat) : Int)).bind fun t => if t.toList = s.toList then some ((val10 0 (L s) : Nat) : Int) else some (-1)) (fun k => by rw [spec_ReadDec.l0, if_neg (by omega)]) ?_
   rw [toList_L]
   unfold rdec
   by_cases h0 : L s = []
   ·refine ev_pos h0 (ev_use (Ev.now _) ?_)
    rw [if_neg]
    rintro ⟨_, e2⟩
    rw [h0] at e2
    exact dec_ne _ e2
   ·refine ev_neg h0 (Ev.bind hd ?_)
    rw [toList_S]
    by_cases h1 : Lib.decDigits (val10 0 (L s)) = L s
    ·exact ev_use (ev_pos h1 (Ev.now _)) (if_pos ⟨by omega, h1⟩).symm
    ·exact ev_use (ev_neg h1 (Ev.now _)) (if_neg (fun h => h1 h.2)).symm
  | succ d ih =>
   intro i hi h9 hall
   have hlt : i < (L s).length := by omega
   have hb : bt s (i : Int) = ((at_ (L s) i).toNat : Int) := bt_nat s i
   have hby := byte_lt (at_ (L s) i)
   by_cases hc : dgt (at_ (L s) i) = true
   ·by_cases hl : (L s).length > 9
    ·refine Ev.step (f := fun k => some (-1)) (fun k => ?_) (ev_use (Ev.now _) (rdec_long hl).symm)
     rw [spec_ReadDec.l0, if_pos (by omega), if_pos (by omega), hb, spec_l01In_eq, Option.bind_some, w64 (by omega) (by omega), if_pos (decide_eq_true (by have := (dgt_is _).1 hc; omega)), if_pos (by omega)]
    ·have htk : (L s).take (i + 1) = (L s).take i ++ [at_ (L s) i] := take_at _ _ hlt
     have hv : val10 0 ((L s).take (i + 1)) = val10 0 ((L s).take i) * 10 + ((at_ (L s) i).toNat - 48) := by rw [htk, val10_append]; rfl
     have hlt9 : val10 0 ((L s).take i) < 1000000000 := by
      have := val10_lt ((L s).take i) 0 hall
      have h2 : 10 ^ ((L s).take i).length ≤ 10 ^ 9 := Nat.pow_le_pow_right (by decide) (by rw [List.length_take]; omega)
      rw [p9] at h2; omega
     refine Ev.step (f := fun k => spec_ReadDec.l0 k s (val10 0 ((L s).take (i + 1)) : Int) ((i + 1 : Nat) : Int)) (fun k => ?_) (ih (i + 1) (by omega) (by omega) ?_)
     ·rw [spec_ReadDec.l0, if_pos (by omega), if_pos (by omega), hb, spec_l01In_eq, Option.bind_some, w64 (n := ((at_ (L s) i).toNat : Int)) (by omega) (by omega), if_pos (decide_eq_true (by have := (dgt_is _).1 hc; omega)), if_neg (by omega), hv, wa1 i (by omega)]
      have := step10 (val10 0 ((L s).take i)) (at_ (L s) i) hlt9 hc
      rw [w64 (n := ((at_ (L s) i).toNat : Int)) (by omega) (by omega)] at this
      rw [this]
     ·intro c hcm
      rw [htk, List.mem_append, List.mem_singleton] at hcm
      rcases hcm with h | rfl
      ·exact hall c h
      ·exact hc
   ·have hbad : rdec (L s) = -1 := rdec_bad ⟨at_ (L s) i, by rw [at_eq _ _ hlt]; exact List.getElem_mem hlt, by simpa using hc⟩
    refine Ev.step (f := fun k => some (-1)) (fun k => ?_) (ev_use (Ev.now _) hbad.symm)
    rw [spec_ReadDec.l0, if_pos (by omega), if_pos (by omega), hb, spec_l01In_eq, Option.bind_some, w64 (by omega) (by omega), if_neg]
    rw [decide_eq_true_iff]
    intro h; exact hc ((dgt_is _).2 (by omega))
 have := key (L s).length 0 (by omega) (by omega) (by simp)
 exact this
theorem all_loop {α : Type} (l : List α) (z : α) (p : α → Bool) (last : Bool) (g : Nat → Int → Option Bool) (hend : Ev (fun k => g k (l.length : Int)) last)
  (hstep : ∀ (i : Nat) (r : Bool), i < l.length → Ev (fun k => g k ((i + 1 : Nat) : Int)) r → Ev (fun k => g k (i : Int)) (p (l.getD i z) && r)) : Ev (fun k => g k 0) (l.all p && last) := by
 have key : ∀ d i, i + d = l.length → Ev (fun k => g k (i : Int)) ((l.drop i).all p && last) := by
  intro d
  induction d with
  | zero =>
   intro i hi
   have e : i = l.length := by omega
   subst e
   rw [List.drop_length]; exact hend
  | succ d ih =>
   intro i hi
   rw [drop_getD l i z (by omega), List.all_cons, Bool.and_assoc]
   exact hstep i _ (by omega) (ih (i + 1) (by omega))
 have := key l.length 0 (by omega)
 exact this
theorem getD_at (l : B) (i : Nat) : l.getD i 0 = at_ l i := rfl
abbrev nm12 : B := [110, 111, 100, 101, 95, 109, 111, 100, 117, 108, 101, 115]
def nc (c : UInt8) : Bool := decide (97 ≤ c.toNat ∧ c.toNat ≤ 122) || dgt c || c == 46 || c == 95 || c == 45
def noAt (l : B) : B := if l.head? = some 64 then l.drop 1 else l
def partOk (p : B) : Bool := !(p == nm12) && (p.all nc && (p != []))
def headOk (p : B) : Bool := !(p == nm12) && ((noAt p).all nc && (noAt p != []))
def partsOk : List B → Bool
 | [] => true
 | p :: r => headOk p && r.all partOk
def nameOk (l : B) : Bool := partsOk (cutP 47 [] l) && decide (l.length ≤ 60)
theorem cutP_pre (c : UInt8) : ∀ (l p q : B), cutP c (q ++ p) l = match cutP c p l with | [] => [] | x :: r => (q ++ x) :: r
 | [], p, q => rfl
 | y :: l, p, q => by
  unfold cutP
  by_cases h : y = c
  ·rw [if_pos h, if_pos h]
  ·rw [if_neg h, if_neg h, List.append_assoc, cutP_pre c l (p ++ [y]) q]
theorem impl_NameOk_1_eq (c : UInt8) : impl_NameOk_1.f (c.toNat : Int) = some (nc c) := by
 revert c; refine all_bytes ?_; decide +kernel
theorem spec_nc {α : Type} (c : UInt8) (x y : α) : ((spec_l01Letter.f (c.toNat : Int)).bind fun t484 => (if t484 = true then some x else (if (c.toNat : Int) = 46 then some x else (if (c.toNat : Int) = 95 then some x else (if (c.toNat : Int) = 45 then some x else some y))))) = some (if nc c = true then x else y) := by
 have ha : ∀ c : UInt8, spec_l01Letter.f (c.toNat : Int) = some (decide (97 ≤ c.toNat ∧ c.toNat ≤ 122) || decide (48 ≤ c.toNat ∧ c.toNat ≤ 57)) := by refine all_bytes ?_; decide +kernel
 have hb : ∀ c : UInt8, nc c = (decide (97 ≤ c.toNat ∧ c.toNat ≤ 122) || decide (48 ≤ c.toNat ∧ c.toNat ≤ 57) || decide ((c.toNat : Int) = 46) || decide ((c.toNat : Int) = 95) || decide ((c.toNat : Int) = 45)) := by refine all_bytes ?_; decide +kernel
 rw [ha, hb, Option.bind_some]
 cases decide (97 ≤ c.toNat ∧ c.toNat ≤ 122) || decide (48 ≤ c.toNat ∧ c.toNat ≤ 57) with
 | true => simp
 | false =>
  by_cases h1 : (c.toNat : Int) = 46
  ·simp [h1]
  ·by_cases h2 : (c.toNat : Int) = 95
   ·simp [h1, h2]
   ·by_cases h3 : (c.toNat : Int) = 45
    ·simp [h1, h2, h3]
    ·simp [h1, h2, h3]
theorem spec_nc2 {f g : Nat → Option Bool} (c : UInt8) (k : Nat) : ((spec_l01Letter.f (c.toNat : Int)).bind fun t484 => (if t484 = true then f k else (if (c.toNat : Int) = 46 then f k else (if (c.toNat : Int) = 95 then f k else (if (c.toNat : Int) = 45 then f k else some false))))) = if nc c = true then f k else some false := by
 have h := spec_nc c (f k) (some false)
 have e : ∀ (t : Bool), (if t = true then some (f k) else (if (c.toNat : Int) = 46 then some (f k) else (if (c.toNat : Int) = 95 then some (f k) else (if (c.toNat : Int) = 45 then some (f k) else some (some false))))) = some (if t = true then f k else (if (c.toNat : Int) = 46 then f k else (if (c.toNat : Int) = 95 then f k else (if (c.toNat : Int) = 45 then f k else some false)))) := by
  intro t
  repeat' split
  all_goals rfl
 cases hl : spec_l01Letter.f (c.toNat : Int) with
 | none => rw [hl] at h; cases h
 | some t =>
  rw [hl, Option.bind_some, e] at h
  rw [Option.bind_some, Option.some.inj h]
theorem impl_all_nc (s : ByteArray) (hs : s.size ≤ 1099511627776) : Ev (fun k => impl_all__impl_NameOk_1.f k s) ((L s).all nc) := by
 have hsz := size_L s
 rw [← Bool.and_true ((L s).all nc)]
 refine all_loop (L s) 0 nc true (fun k i => impl_all__impl_NameOk_1.l0 k s (s.size : Int) i) ?_ ?_
 ·exact Ev.step (f := fun k => some true) (fun k => by show impl_all__impl_NameOk_1.l0 (k + 1) s _ _ = _; rw [impl_all__impl_NameOk_1.l0, if_neg (by omega)]) (Ev.now _)
 ·intro i r hi hr
  rw [getD_at]
  have hb : bt s (i : Int) = ((at_ (L s) i).toNat : Int) := bt_nat s i
  by_cases h : nc (at_ (L s) i) = true
  ·rw [h, Bool.true_and]
   refine Ev.step (fun k => ?_) hr
   show impl_all__impl_NameOk_1.l0 (k + 1) s _ _ = _
   rw [impl_all__impl_NameOk_1.l0, if_pos (by omega), if_pos (by omega), if_pos (by omega), hb, impl_NameOk_1_eq, Option.bind_some, if_pos h, wa1 i (by omega)]
  ·refine Ev.step (f := fun k => some false) (fun k => ?_) (by simp only [Bool.not_eq_true] at h; rw [h]; exact Ev.now _)
   show impl_all__impl_NameOk_1.l0 (k + 1) s _ _ = _
   rw [impl_all__impl_NameOk_1.l0, if_pos (by omega), if_pos (by omega), if_pos (by omega), hb, impl_NameOk_1_eq, Option.bind_some, if_neg h]
theorem spec_name_l1 (s : ByteArray) (q : List ByteArray) (i : Nat) (hi : i < q.length) (hq : q.length ≤ 1048577) (p : ByteArray) (hp : p.size ≤ 1048577) {r : Bool} (hr : Ev (fun k => spec_NameOk.l0 k s q ((i + 1 : Nat) : Int)) r) :
  Ev (fun k => spec_NameOk.l1 k s q (i : Int) p 0) ((L p).all nc && ((L p != []) && r)) := by
 have hsz := size_L p
 refine all_loop (L p) 0 nc _ (fun k j => spec_NameOk.l1 k s q (i : Int) p j) ?_ ?_
 ·refine Ev.step (f := fun k => if p.toList = ([] : List UInt8) then some false else spec_NameOk.l0 k s q ((i + 1 : Nat) : Int)) (fun k => ?_) ?_
  ·show spec_NameOk.l1 (k + 1) s q _ p _ = _
   rw [spec_NameOk.l1, if_neg (by omega), wa1 i (by omega)]
  ·rw [toList_L]
   by_cases h : L p = []
   ·have : (L p != ([] : B)) = false := by rw [h]; rfl
    rw [this, Bool.false_and]; exact ev_pos h (Ev.now _)
   ·rw [bne_iff_ne.2 h, Bool.true_and]; exact ev_neg h hr
 ·intro j r hj hr
  rw [getD_at]
  have hb : bt p (j : Int) = ((at_ (L p) j).toNat : Int) := bt_nat p j
  have e := fun k => spec_nc2 (f := fun k => spec_NameOk.l1 k s q (i : Int) p ((j + 1 : Nat) : Int)) (g := fun _ => none) (at_ (L p) j) k
  refine Ev.step (f := fun k => if nc (at_ (L p) j) = true then spec_NameOk.l1 k s q (i : Int) p ((j + 1 : Nat) : Int) else some false) (fun k => ?_) ?_
  ·show spec_NameOk.l1 (k + 1) s q _ p _ = _
   rw [spec_NameOk.l1, if_pos (by omega), if_pos (by omega), hb, wa1 j (by omega)]
   exact e k
  ·by_cases h : nc (at_ (L p) j) = true
   ·rw [h, Bool.true_and]; exact ev_pos rfl hr
   ·simp only [Bool.not_eq_true] at h; rw [h]; exact ev_neg (by simp) (Ev.now _)
theorem rd_S (q : List B) (i : Nat) : rdOf ByteArray.empty (q.map S) (i : Int) = S (q.getD i []) := by
 show (q.map S).getD i ByteArray.empty = _
 rw [List.getD_eq_getElem?_getD, List.getD_eq_getElem?_getD, List.getElem?_map]
 cases q[i]? <;> rfl
theorem spec_name_l0 (s : ByteArray) (q : List B) (hq : q.length ≤ 1048577) (hm : ∀ x ∈ q, x.length ≤ 1048576) : ∀ d i, i + d = q.length → Ev (fun k => spec_NameOk.l0 k s (q.map S) (i : Int)) ((if i = 0 then partsOk q else (q.drop i).all partOk) && decide (s.size ≤ 60)) := by
 intro d
 induction d with
 | zero =>
  intro i hi
  refine Ev.step (f := fun _ => some (decide ((s.size : Int) ≤ 60))) (fun k => by rw [spec_NameOk.l0, if_neg (by rw [List.length_map]; omega)]) (ev_use (Ev.now _) ?_)
  have e1 : decide ((s.size : Int) ≤ 60) = decide (s.size ≤ 60) := by
   by_cases h : s.size ≤ 60
   ·rw [decide_eq_true h, decide_eq_true (by omega)]
   ·rw [decide_eq_false h, decide_eq_false (by omega)]
  rw [e1, List.drop_of_length_le (by omega)]
  by_cases h0 : i = 0
  ·have : q = [] := List.eq_nil_of_length_eq_zero (by omega)
   rw [if_pos h0, this]; rfl
  ·rw [if_neg h0]; rfl
 | succ d ih =>
  intro i hi
  have hlt : i < q.length := by omega
  have hmem : q.getD i [] ∈ q := by rw [List.getD_eq_getElem?_getD, List.getElem?_eq_getElem hlt]; exact List.getElem_mem hlt
  have hml := hm _ hmem
  have hn := ih (i + 1) (by omega)
  rw [if_neg (by omega)] at hn
  have hlm : i < (q.map S).length := by rw [List.length_map]; exact hlt
  have en : (⟨#[]⟩ : ByteArray) = ByteArray.empty := rfl
  by_cases hx : q.getD i [] = nm12
  ·refine ev_use (Ev.step (f := fun _ => some false) (fun k => ?_) (Ev.now _)) ?_
   ·rw [spec_NameOk.l0, if_pos (by omega), if_pos (by omega), rd_S, toList_S, if_pos hx]
   ·by_cases h0 : i = 0
    ·rw [if_pos h0]
     cases q with
     | nil => simp at hlt
     | cons x r =>
      subst h0
      have hx' : x = nm12 := hx
      rw [partsOk, headOk, hx']; rfl
    ·rw [if_neg h0, drop_getD q i [] hlt, List.all_cons, hx]; rfl
  ·have inner : ∀ p : B, p.length ≤ 1048576 → Ev (fun k => spec_NameOk.j2 k s (q.map S) (i : Int) (S p)) (p.all nc && ((p != []) && ((q.drop (i + 1)).all partOk && decide (s.size ≤ 60)))) := fun p hp => by
    have := spec_name_l1 s (q.map S) i hlm (by rw [List.length_map]; omega) (S p) (by rw [size_S]; omega) hn
    rw [L_S] at this
    exact Ev.step (fun k => by rw [spec_NameOk.j2]) this
   have hne : (q.getD i [] == nm12) = false := beq_eq_false_iff_ne.2 hx
   by_cases h0 : i = 0
   ·subst h0
    rw [if_pos rfl]
    cases q with
    | nil => simp at hlt
    | cons x r =>
     have hx' : ¬ x = nm12 := hx
     have hne' : (x == nm12) = false := hne
     have hxl : x.length ≤ 1048576 := hml
     have e0 : ((x :: r).getD 0 []) = x := rfl
     rw [partsOk, headOk, hne', Bool.not_false, Bool.true_and]
     have flag : ∀ b : Bool, b = decide (x.head? = some 64) → Ev (fun k => spec_NameOk.j1 k s ((x :: r).map S) 0 (S x) b) (((noAt x).all nc && (noAt x != [])) && r.all partOk && decide (s.size ≤ 60)) := by
      intro b hb
      by_cases hat : x.head? = some 64
      ·rw [decide_eq_true hat] at hb
       subst hb
       have en : noAt x = x.drop 1 := if_pos hat
       have hx1 : 1 ≤ x.length := by cases x with
        | nil => simp at hat
        | cons y l => simp
       have eS : (S x).extract 1 (S x).size = S (x.drop 1) := by
        apply L_inj; rw [L_extract, L_S, L_S, size_S, List.take_of_length_le (by rw [List.length_drop]; omega)]
       rw [en]
       refine ev_use (Ev.step (f := fun k => spec_NameOk.j2 k s ((x :: r).map S) 0 (S (x.drop 1))) (fun k => ?_) (inner (x.drop 1) (by rw [List.length_drop]; omega))) ?_
       ·rw [spec_NameOk.j1, if_pos rfl, if_pos (by rw [size_S]; omega), eS]
       ·show _ = _
        rw [Bool.and_assoc, Bool.and_assoc]; rfl
      ·rw [decide_eq_false hat] at hb
       subst hb
       have en : noAt x = x := if_neg hat
       rw [en]
       refine ev_use (Ev.step (f := fun k => spec_NameOk.j2 k s ((x :: r).map S) 0 (S x)) (fun k => ?_) (inner x hxl)) ?_
       ·rw [spec_NameOk.j1, if_neg (by decide)]
       ·show _ = _
        rw [Bool.and_assoc, Bool.and_assoc]; rfl
     cases x with
     | nil =>
      refine Ev.step (fun k => ?_) (flag false rfl)
      have er : rdOf ByteArray.empty (([] :: r).map S) ((0 : Nat) : Int) = S [] := rd_S ([] :: r) 0
      rw [spec_NameOk.l0, if_pos (by omega), if_pos (by omega), er, toList_S, if_neg hx', if_pos (show ((0 : Nat) : Int) = 0 from rfl), if_neg (by rw [size_S]; simp)]; rfl
     | cons y l =>
      refine Ev.step (fun k => ?_) (flag ((y.toNat : Int) == 64) ?_)
      ·have er : rdOf ByteArray.empty (((y :: l) :: r).map S) ((0 : Nat) : Int) = S (y :: l) := rd_S ((y :: l) :: r) 0
       have eb : bt (S (y :: l)) 0 = (y.toNat : Int) := by
        have := bt_nat (S (y :: l)) 0; rw [L_S] at this; exact this
       rw [spec_NameOk.l0, if_pos (by omega), if_pos (by omega), er, toList_S, if_neg hx', if_pos (show ((0 : Nat) : Int) = 0 from rfl), if_pos (by rw [size_S, List.length_cons]; omega), if_pos (by rw [size_S, List.length_cons]; omega), eb]; rfl
      ·by_cases h : y = 64
       ·subst h; rfl
       ·have h1 : ¬ (y.toNat : Int) = 64 := fun e => h (byte_inj (d := 64) e)
        rw [beq_eq_false_iff_ne.2 h1, decide_eq_false]
        intro e; exact h (Option.some.inj e)
   ·rw [if_neg h0, drop_getD q i [] hlt, List.all_cons, partOk, hne, Bool.not_false, Bool.true_and]
    refine ev_use (Ev.step (f := fun k => spec_NameOk.j1 k s (q.map S) (i : Int) (S (q.getD i [])) false) (fun k => ?_) (Ev.step (f := fun k => spec_NameOk.j2 k s (q.map S) (i : Int) (S (q.getD i []))) (fun k => ?_) (inner _ hml))) ?_
    ·rw [spec_NameOk.l0, if_pos (by omega), if_pos (by omega), rd_S, toList_S, if_neg hx, if_neg (by omega)]
    ·rw [spec_NameOk.j1, if_neg (by decide)]
    ·rw [Bool.and_assoc, Bool.and_assoc]
theorem parts_len (l : B) (hl : l.length ≤ 1048576) : (cutP 47 [] l).length ≤ 1048577 ∧ ∀ x ∈ cutP 47 [] l, x.length ≤ 1048576 := by
 refine ⟨by have := (cutP_len 47 l []).2; omega, fun x hx => ?_⟩
 have key : ∀ (l p : B), x ∈ cutP 47 p l → x.length ≤ p.length + l.length := by
  intro l
  induction l with
  | nil => intro p h; simp only [cutP, List.mem_singleton] at h; subst h; simp
  | cons y l ih =>
   intro p h
   unfold cutP at h
   by_cases hy : y = 47
   ·rw [if_pos hy, List.mem_cons] at h
    rcases h with rfl | h
    ·omega
    ·have := ih [] h; simp at *; omega
   ·rw [if_neg hy] at h
    have := ih _ h; simp at *; omega
 have := key l [] hx
 simp at this; omega
theorem spec_NameOk_ev (s : ByteArray) (hs : s.size ≤ 1048576) : Ev (fun k => spec_NameOk.f k s) (nameOk (L s)) := by
 have hl := size_L s
 have hp := parts_len (L s) (by omega)
 unfold spec_NameOk.f nameOk
 refine Ev.bind (spec_l01Cut_ev s 47 (by omega)) ?_
 have := spec_name_l0 s (cutP 47 [] (L s)) hp.1 hp.2 _ 0 (Nat.zero_add _)
 rw [if_pos rfl, hl] at this
 exact this
def partsI (at0 : Bool) : List B → Bool
 | [] => true
 | p :: r => ((p != []) && ((at0 || !(p == nm12)) && p.all nc)) && r.all partOk
theorem impl_name_l0 (s : ByteArray) (at0 : Bool) (q : List B) (hq : q.length ≤ 1048577) (hm : ∀ x ∈ q, x.length ≤ 1048576) : ∀ d i, i + d = q.length → Ev (fun k => impl_NameOk.l0 k s at0 (q.map S) ((q.map S).length : Int) (i : Int)) ((if i = 0 then partsI at0 q else (q.drop i).all partOk) && decide (s.size ≤ 60)) := by
 intro d
 induction d with
 | zero =>
  intro i hi
  refine Ev.step (f := fun _ => some (decide ((s.size : Int) ≤ 60))) (fun k => by rw [impl_NameOk.l0, if_neg (by rw [List.length_map]; omega)]) (ev_use (Ev.now _) ?_)
  have e1 : decide ((s.size : Int) ≤ 60) = decide (s.size ≤ 60) := by
   by_cases h : s.size ≤ 60
   ·rw [decide_eq_true h, decide_eq_true (by omega)]
   ·rw [decide_eq_false h, decide_eq_false (by omega)]
  rw [e1, List.drop_of_length_le (by omega)]
  by_cases h0 : i = 0
  ·have : q = [] := List.eq_nil_of_length_eq_zero (by omega)
   rw [if_pos h0, this]; rfl
  ·rw [if_neg h0]; rfl
 | succ d ih =>
  intro i hi
  have hlt : i < q.length := by omega
  have hmem : q.getD i [] ∈ q := by rw [List.getD_eq_getElem?_getD, List.getElem?_eq_getElem hlt]; exact List.getElem_mem hlt
  have hml := hm _ hmem
  have hn := ih (i + 1) (by omega)
  rw [if_neg (by omega)] at hn
  have hlm : (i : Int) < ((q.map S).length : Int) := by rw [List.length_map]; omega
  have goal : ∀ g : Bool, (g = true → i = 0 ∧ at0 = true) → (i = 0 ∧ at0 = true → g = true) → Ev (fun k => impl_NameOk.l0 k s at0 (q.map S) ((q.map S).length : Int) (i : Int)) (((q.getD i [] != []) && ((g || !(q.getD i [] == nm12)) && (q.getD i []).all nc)) && ((q.drop (i + 1)).all partOk && decide (s.size ≤ 60))) := by
   intro g hg1 hg2
   generalize hx : q.getD i [] = x at hml
   have ha := impl_all_nc (S x) (by rw [size_S]; omega)
   rw [L_S] at ha
   have rest : Ev (fun k => (impl_all__impl_NameOk_1.f k (S x)).bind fun t => if t = true then impl_NameOk.l0 k s at0 (q.map S) ((q.map S).length : Int) ((i + 1 : Nat) : Int) else some false) (x.all nc && ((q.drop (i + 1)).all partOk && decide (s.size ≤ 60))) := by
    refine Ev.bind ha ?_
    by_cases h : x.all nc = true
    ·rw [h, Bool.true_and]; exact ev_pos rfl hn
    ·simp only [Bool.not_eq_true] at h; rw [h]; exact ev_neg (by simp) (Ev.now _)
   have er : rdOf ByteArray.empty (q.map S) (i : Int) = S x := by rw [rd_S, hx]
   refine Ev.step (f := fun k => if x = ([] : B) then some false else if x = nm12 then (if at0 = true then (if (i : Int) = 0 then ((impl_all__impl_NameOk_1.f k (S x)).bind fun t => if t = true then impl_NameOk.l0 k s at0 (q.map S) ((q.map S).length : Int) ((i + 1 : Nat) : Int) else some false) else some false) else some false) else ((impl_all__impl_NameOk_1.f k (S x)).bind fun t => if t = true then impl_NameOk.l0 k s at0 (q.map S) ((q.map S).length : Int) ((i + 1 : Nat) : Int) else some false)) (fun k => ?_) ?_
   ·rw [impl_NameOk.l0, if_pos hlm, if_pos (by omega), if_pos hlm, er, toList_S, wa1 i (by omega)]
   ·by_cases h1 : x = []
    ·have : (x != ([] : B)) = false := by rw [h1]; rfl
     rw [this]; exact ev_pos h1 (Ev.now _)
    ·rw [bne_iff_ne.2 h1, Bool.true_and]
     refine ev_neg h1 ?_
     by_cases h2 : x = nm12
     ·have e2 : (x == nm12) = true := beq_iff_eq.2 h2
      rw [e2]
      refine ev_pos h2 ?_
      by_cases h3 : at0 = true
      ·refine ev_pos h3 ?_
       by_cases h4 : i = 0
       ·rw [hg2 ⟨h4, h3⟩, Bool.true_or, Bool.true_and]; exact ev_pos (by omega) rest
       ·have : g = false := by simpa using fun e => h4 (hg1 e).1
        rw [this]; exact ev_neg (by omega) (Ev.now _)
      ·have : g = false := by simpa using fun e => h3 (hg1 e).2
       rw [this]; exact ev_neg h3 (Ev.now _)
     ·have e2 : (x == nm12) = false := beq_eq_false_iff_ne.2 h2
      rw [e2, Bool.not_false, Bool.or_true, Bool.true_and]
      exact ev_neg h2 rest
  by_cases h0 : i = 0
  ·subst h0
   rw [if_pos rfl]
   have := goal at0 (fun h => ⟨rfl, h⟩) (fun h => h.2)
   cases q with
   | nil => simp at hlt
   | cons x r => exact ev_use this (Bool.and_assoc _ _ _).symm
  ·rw [if_neg h0, drop_getD q i [] hlt, List.all_cons]
   have ep : partOk (q.getD i []) = ((q.getD i [] != []) && ((false || !(q.getD i [] == nm12)) && (q.getD i []).all nc)) := by
    unfold partOk
    cases (q.getD i [] == nm12) <;> cases (q.getD i []).all nc <;> cases (q.getD i [] != []) <;> rfl
   rw [ep]
   exact ev_use (goal false (fun h => by cases h) (fun h => absurd h.1 h0)) (Bool.and_assoc _ _ _).symm
theorem noAt_eq (l : B) : noAt l = Lib.trimPrefix l [64] := by
 unfold noAt Lib.trimPrefix Lib.hasPrefix
 cases l with
 | nil => rfl
 | cons y r =>
  by_cases h : y = 64
  ·subst h; rfl
  ·have e : ((64 : UInt8) == y) = false := beq_eq_false_iff_ne.2 fun e => h e.symm
   simp [List.isPrefixOf, e, h]
theorem at_eq0 (l : B) : decide (l.head? = some 64) = Lib.hasPrefix l [64] := by
 unfold Lib.hasPrefix
 cases l with
 | nil => rfl
 | cons y r =>
  by_cases h : y = 64
  ·subst h; simp [List.isPrefixOf]
  ·have e : ((64 : UInt8) == y) = false := beq_eq_false_iff_ne.2 fun e => h e.symm
   simp [List.isPrefixOf, e, h]
theorem parts_at (l : B) : partsOk (cutP 47 [] l) = partsI (decide (l.head? = some 64)) (cutP 47 [] (noAt l)) := by
 have plain : ∀ x r, noAt x = x → partsOk (x :: r) = (((x != []) && ((!(x == nm12)) && x.all nc)) && r.all partOk) := by
  intro x r e
  rw [partsOk, headOk, e]
  congr 1
  cases (x == nm12) <;> cases x.all nc <;> cases (x != []) <;> rfl
 have hc := (cutP_len 47 (noAt l) []).1
 by_cases h : l.head? = some 64
 ·cases l with
  | nil => simp at h
  | cons y r =>
   have hy : y = 64 := Option.some.inj h
   subst hy
   have en : noAt (64 :: r) = r := if_pos rfl
   rw [en] at hc ⊢
   have e1 : cutP 47 [] (64 :: r) = cutP 47 ([64] ++ []) r := by
    rw [cutP, if_neg (by decide)]; rfl
   rw [e1, cutP_pre]
   cases hq : cutP 47 [] r with
   | nil => rw [hq] at hc; simp at hc
   | cons x xs =>
    have e2 : noAt ([64] ++ x) = x := if_pos rfl
    have e3 : (([64] ++ x : B) == nm12) = false := beq_eq_false_iff_ne.2 fun e => by
     have := congrArg List.head? e
     simp [nm12] at this
    show partsOk (([64] ++ x) :: xs) = _
    rw [partsOk, headOk, e2, e3, decide_eq_true h]
    show _ = (((x != []) && (true && x.all nc)) && xs.all partOk)
    congr 1
    cases x.all nc <;> cases (x != []) <;> rfl
 ·have en : noAt l = l := if_neg h
  rw [en, decide_eq_false h]
  cases hq : cutP 47 [] l with
  | nil => rfl
  | cons x xs =>
   have e2 : noAt x = x := by
    refine if_neg fun e => h ?_
    cases l with
    | nil => rw [cutP] at hq; cases hq; exact e
    | cons y r =>
     rw [cutP] at hq
     by_cases hy : y = 47
     ·rw [if_pos hy] at hq; cases hq; simp at e
     ·rw [if_neg hy] at hq
      have := cutP_pre 47 r [] [y]
      rw [List.append_nil] at this
      have hq' : cutP 47 [y] r = x :: xs := hq
      rw [this] at hq'
      cases hz : cutP 47 [] r with
      | nil => rw [hz] at hq'; cases hq'
      | cons z zs =>
       rw [hz] at hq'
       have ez : [y] ++ z = x := (List.cons.inj hq').1
       rw [← ez] at e
       simpa using e
   rw [plain x xs e2]; rfl
theorem impl_NameOk_ev (s : ByteArray) (hs : s.size ≤ 1048576) : Ev (fun k => impl_NameOk.f k s) (nameOk (L s)) := by
 have hl := size_L s
 have hn : (noAt (L s)).length ≤ 1048576 := by
  unfold noAt; split
  ·rw [List.length_drop]; omega
  ·omega
 have hp := parts_len (noAt (L s)) hn
 unfold impl_NameOk.f nameOk
 have e1 : strings_HasPrefix.f s (⟨#[64]⟩ : ByteArray) = some (decide ((L s).head? = some 64)) := by rw [at_eq0]; rfl
 have e2 : strings_TrimPrefix.f s (⟨#[64]⟩ : ByteArray) = some (S (noAt (L s))) := by rw [noAt_eq]; rfl
 have e3 := split_one (S (noAt (L s))) 47 (by rw [size_S]; omega)
 rw [L_S] at e3
 refine ev_const e1 (ev_const e2 (ev_const e3 ?_))
 have := impl_name_l0 s (decide ((L s).head? = some 64)) (cutP 47 [] (noAt (L s))) hp.1 hp.2 _ 0 (Nat.zero_add _)
 rw [if_pos rfl, ← parts_at, hl] at this
 exact this
def plain1 (c : UInt8) : Bool := decide (33 ≤ c.toNat) && decide (c.toNat ≤ 126) && c != 34 && c != 39 && c != 44 && c != 92
def plainOk (l : B) : Bool := decide (l.length ≤ 100) && l.all plain1
theorem impl_PlainOk_1_eq (c : UInt8) : impl_PlainOk_1.f (c.toNat : Int) = some (plain1 c) := by
 revert c
 refine all_bytes ?_
 decide +kernel
theorem impl_all_plain (s : ByteArray) (hs : s.size ≤ 1099511627776) : Ev (fun k => impl_all__impl_PlainOk_1.f k s) ((L s).all plain1) := by
 refine ev_use (loop_up (fun k i (_ : Unit) => impl_all__impl_PlainOk_1.l0 k s (s.size : Int) i) (L s).length (fun _ _ => True) (fun i _ => ((L s).drop i).all plain1) ?_ ?_ 0 () (by omega) trivial) (by simp)
 ·intro st _
  refine Ev.step (f := fun k => some true) (fun k => by rw [impl_all__impl_PlainOk_1.l0, if_neg (by rw [size_L]; omega)]) ?_
  simpa using Ev.now true
 ·intro i st hi _ ih
  have hz : (i : Int) < (s.size : Int) := by rw [size_L]; omega
  by_cases h : plain1 (at_ (L s) i) = true
  ·refine Ev.step (f := fun k => impl_all__impl_PlainOk_1.l0 k s (s.size : Int) ((i + 1 : Nat) : Int)) (fun k => ?_) (ev_use (ih () trivial) ?_)
   ·rw [impl_all__impl_PlainOk_1.l0, if_pos hz, if_pos (by omega), if_pos hz, bt_nat, impl_PlainOk_1_eq, Option.bind_some, if_pos h, inc i (by rw [← size_L] at hi; omega)]
   ·rw [drop_at _ _ hi, List.all_cons, h, Bool.true_and]
  ·refine Ev.step (f := fun k => some false) (fun k => ?_) ?_
   ·rw [impl_all__impl_PlainOk_1.l0, if_pos hz, if_pos (by omega), if_pos hz, bt_nat, impl_PlainOk_1_eq, Option.bind_some, if_neg h]
   ·rw [drop_at _ _ hi, List.all_cons]; simp only [Bool.not_eq_true] at h; rw [h]; exact Ev.now _
theorem impl_PlainOk_ev (s : ByteArray) (hs : s.size ≤ 1099511627776) : Ev (fun k => impl_PlainOk.f k s) (plainOk (L s)) := by
 unfold impl_PlainOk.f plainOk
 rw [← size_L]
 by_cases h : (s.size : Int) ≤ 100
 ·refine ev_pos h (ev_use (Ev.bind (impl_all_plain s hs) (Ev.now _)) ?_)
  have : s.size ≤ 100 := by omega
  simp [this]
 ·refine ev_neg h ?_
  have : ¬ s.size ≤ 100 := by omega
  simpa [this] using Ev.now false
theorem spec_PlainOk_ev (s : ByteArray) (hs : s.size ≤ 1099511627776) : Ev (fun k => spec_PlainOk.f k s) (plainOk (L s)) := by
 have hd : plainOk (L s) = (((L s).drop 0).all plain1 && decide (s.size ≤ 100)) := by
  unfold plainOk; rw [← size_L, Bool.and_comm]; rfl
 rw [hd]
 refine loop_up (fun k i (_ : Unit) => spec_PlainOk.l0 k s i) (L s).length (fun _ _ => True) (fun i _ => ((L s).drop i).all plain1 && decide (s.size ≤ 100)) ?_ ?_ 0 () (by omega) trivial
 ·intro st _
  refine Ev.step (f := fun k => some (decide (s.size ≤ 100))) (fun k => ?_) ?_
  ·rw [spec_PlainOk.l0, if_neg (by rw [size_L]; omega)]
   by_cases h : s.size ≤ 100
   ·rw [if_pos (by omega), decide_eq_true h, decide_eq_true (by omega)]
   ·rw [if_neg (by omega), decide_eq_false h]
  ·simpa using Ev.now (decide (s.size ≤ 100))
 ·intro i st hi _ ih
  have hz : (i : Int) < (s.size : Int) := by rw [size_L]; omega
  have hb := byte_lt (at_ (L s) i)
  by_cases h : plain1 (at_ (L s) i) = true
  ·refine Ev.step (f := fun k => spec_PlainOk.l0 k s ((i + 1 : Nat) : Int)) (fun k => ?_) (ev_use (ih () trivial) ?_)
   ·rw [spec_PlainOk.l0, if_pos hz, if_pos (by omega), bt_nat, w64 (by omega) (by omega), spec_l01In_eq, Option.bind_some, inc i (by rw [← size_L] at hi; omega)]
    revert h; generalize at_ (L s) i = c; intro h
    have e : ∀ c : UInt8, plain1 c = true → (decide ((33 : Int) ≤ (c.toNat : Int) ∧ (c.toNat : Int) ≤ 126) = true ∧ ¬ (c.toNat : Int) = 34 ∧ ¬ (c.toNat : Int) = 39 ∧ ¬ (c.toNat : Int) = 44 ∧ ¬ (c.toNat : Int) = 92) := all_bytes (by decide +kernel)
    obtain ⟨e1, e2, e3, e4, e5⟩ := e c h
    rw [if_pos e1, if_neg e2, if_neg e3, if_neg e4, if_neg e5]
   ·rw [drop_at _ _ hi, List.all_cons, h, Bool.true_and]
  ·refine Ev.step (f := fun k => some false) (fun k => ?_) ?_
   ·rw [spec_PlainOk.l0, if_pos hz, if_pos (by omega), bt_nat, w64 (by omega) (by omega), spec_l01In_eq, Option.bind_some]
    revert h; generalize at_ (L s) i = c; intro h
    have e : ∀ c : UInt8, ¬ plain1 c = true → ¬ (decide ((33 : Int) ≤ (c.toNat : Int) ∧ (c.toNat : Int) ≤ 126) = true ∧ ¬ (c.toNat : Int) = 34 ∧ ¬ (c.toNat : Int) = 39 ∧ ¬ (c.toNat : Int) = 44 ∧ ¬ (c.toNat : Int) = 92) := all_bytes (by decide +kernel)
    have e := e c h
    by_cases e1 : decide ((33 : Int) ≤ (c.toNat : Int) ∧ (c.toNat : Int) ≤ 126) = true
    ·rw [if_pos e1]
     by_cases e2 : (c.toNat : Int) = 34
     ·rw [if_pos e2]
     ·rw [if_neg e2]
      by_cases e3 : (c.toNat : Int) = 39
      ·rw [if_pos e3]
      ·rw [if_neg e3]
       by_cases e4 : (c.toNat : Int) = 44
       ·rw [if_pos e4]
       ·rw [if_neg e4]
        by_cases e5 : (c.toNat : Int) = 92
        ·rw [if_pos e5]
        ·exact absurd ⟨e1, e2, e3, e4, e5⟩ e
    ·rw [if_neg e1]
   ·rw [drop_at _ _ hi, List.all_cons]; simp only [Bool.not_eq_true] at h; rw [h]; exact Ev.now _
def isNum (l : B) : Bool := l.all dgt && (l != [])
def idc (c : UInt8) : Bool := decide (97 ≤ c.toNat ∧ c.toNat ≤ 122) || decide (65 ≤ c.toNat ∧ c.toNat ≤ 90) || decide (48 ≤ c.toNat ∧ c.toNat ≤ 57) || c == 45
def preOk (l : B) : Bool := l.all idc && (decide (1 ≤ l.length ∧ l.length ≤ 20) && (!isNum l || decide (0 ≤ rdec l)))
def num9 (n : Int) : Bool := decide (0 ≤ n ∧ n ≤ 999999999)
def verOk (a b c : Int) (l : List ByteArray) : Bool := (num9 a && num9 b && num9 c) && (l.all (fun p => preOk (L p)) && decide (l.length ≤ 5))
theorem spec_dgt (c : UInt8) : spec_l01In.f (wrap64 (c.toNat : Int)) 48 57 = some (dgt c) := by
 have := byte_lt c
 rw [spec_l01In_eq, w64 (by omega) (by omega)]
 congr 1
 unfold dgt
 by_cases h : 48 ≤ c.toNat ∧ c.toNat ≤ 57
 ·rw [decide_eq_true h, decide_eq_true (by omega)]
 ·rw [decide_eq_false h, decide_eq_false (by omega)]
theorem spec_l02Digits_ev (s : ByteArray) (hs : s.size ≤ 1099511627776) : Ev (fun k => spec_l02Digits.f k s) (isNum (L s)) := by
 have hsz := size_L s
 refine all_loop (L s) 0 dgt ((L s) != []) (fun k i => spec_l02Digits.l0 k s i) ?_ ?_
 ·exact Ev.step (f := fun k => some (s.toList != ([] : List UInt8))) (fun k => by show spec_l02Digits.l0 (k + 1) s _ = _; rw [spec_l02Digits.l0, if_neg (by omega)]) (by rw [toList_L]; exact Ev.now _)
 ·intro i r hi hr
  rw [getD_at]
  have hb : bt s (i : Int) = ((at_ (L s) i).toNat : Int) := bt_nat s i
  by_cases h : dgt (at_ (L s) i) = true
  ·rw [h, Bool.true_and]
   refine Ev.step (fun k => ?_) hr
   show spec_l02Digits.l0 (k + 1) s _ = _
   rw [spec_l02Digits.l0, if_pos (by omega), if_pos (by omega), hb, spec_dgt, Option.bind_some, if_pos h, wa1 i (by omega)]
  ·refine Ev.step (f := fun k => some false) (fun k => ?_) (by simp only [Bool.not_eq_true] at h; rw [h]; exact Ev.now _)
   show spec_l02Digits.l0 (k + 1) s _ = _
   rw [spec_l02Digits.l0, if_pos (by omega), if_pos (by omega), hb, spec_dgt, Option.bind_some, if_neg h]
theorem id_spec (c : UInt8) : ∃ a b, spec_l01Letter.f (c.toNat : Int) = some a ∧ spec_l01Great.f (c.toNat : Int) = some b ∧ idc c = (a || b || decide ((c.toNat : Int) = 45)) := by
 have ha : ∀ c : UInt8, spec_l01Letter.f (c.toNat : Int) = some (decide (97 ≤ c.toNat ∧ c.toNat ≤ 122) || decide (48 ≤ c.toNat ∧ c.toNat ≤ 57)) := by refine all_bytes ?_; decide +kernel
 have hb : ∀ c : UInt8, spec_l01Great.f (c.toNat : Int) = some (decide (65 ≤ c.toNat ∧ c.toNat ≤ 90)) := by refine all_bytes ?_; decide +kernel
 refine ⟨_, _, ha c, hb c, ?_⟩
 revert c; refine all_bytes ?_; decide +kernel
theorem spec_id {α : Type} (c : UInt8) (x : Option α) (y : Option α) : ((spec_l01Letter.f (c.toNat : Int)).bind fun t289 => (if t289 = true then x else ((spec_l01Great.f (c.toNat : Int)).bind fun t290 => (if t290 = true then x else (if (c.toNat : Int) = 45 then x else y))))) = if idc c = true then x else y := by
 obtain ⟨a, b, ha, hb, hc⟩ := id_spec c
 rw [ha, hb, hc, Option.bind_some, Option.bind_some]
 cases a <;> cases b <;> simp
theorem spec_l02Pre_ev (s : ByteArray) (hs : s.size ≤ 1099511627776) : Ev (fun k => spec_l02Pre.f k s) (preOk (L s)) := by
 have hsz := size_L s
 have hr := rdec_range (L s)
 refine all_loop (L s) 0 idc _ (fun k i => spec_l02Pre.l0 k s i) ?_ ?_
 ·refine Ev.step (f := fun k => (spec_l01In.f (s.size : Int) 1 20).bind fun t286 => (if t286 = true then ((spec_l02Digits.f k s).bind fun t287 => (if t287 = true then ((spec_ReadDec.f k s).bind fun t288 => (some (decide (t288 ≥ 0)))) else (some true))) else (some false))) (fun k => by show spec_l02Pre.l0 (k + 1) s _ = _; rw [spec_l02Pre.l0, if_neg (by omega)]) ?_
  refine ev_const (spec_l01In_eq _ _ _) ?_
  by_cases h1 : 1 ≤ (L s).length ∧ (L s).length ≤ 20
  ·rw [decide_eq_true h1, Bool.true_and]
   refine ev_pos (decide_eq_true (by omega)) (Ev.bind (spec_l02Digits_ev s hs) ?_)
   by_cases h2 : isNum (L s) = true
   ·rw [h2, Bool.not_true, Bool.false_or]
    exact ev_pos rfl (Ev.bind (spec_ReadDec_ev s hs) (Ev.now _))
   ·refine ev_use (ev_neg h2 (Ev.now _)) ?_
    simp only [Bool.not_eq_true] at h2; rw [h2]; rfl
  ·rw [decide_eq_false h1]
   exact ev_neg (by simp; omega) (Ev.now _)
 ·intro i r hi hr
  rw [getD_at]
  have hb : bt s (i : Int) = ((at_ (L s) i).toNat : Int) := bt_nat s i
  by_cases h : idc (at_ (L s) i) = true
  ·rw [h, Bool.true_and]
   refine Ev.step (fun k => ?_) hr
   show spec_l02Pre.l0 (k + 1) s _ = _
   rw [spec_l02Pre.l0, if_pos (by omega), if_pos (by omega), hb, spec_id, if_pos h, wa1 i (by omega)]
  ·refine Ev.step (f := fun k => some false) (fun k => ?_) (by simp only [Bool.not_eq_true] at h; rw [h]; exact Ev.now _)
   show spec_l02Pre.l0 (k + 1) s _ = _
   rw [spec_l02Pre.l0, if_pos (by omega), if_pos (by omega), hb, spec_id, if_neg h]
theorem spec_num9 (n : Int) : spec_l01In.f n 0 999999999 = some (num9 n) := spec_l01In_eq _ _ _
theorem impl_num9 (n : Int) : impl_within.f n 0 999999999 = some (num9 n) := impl_within_eq _ _ _
theorem len5 (n : Nat) : decide ((n : Int) ≤ 5) = decide (n ≤ 5) := by
 by_cases h : n ≤ 5
 ·rw [decide_eq_true h, decide_eq_true (by omega)]
 ·rw [decide_eq_false h, decide_eq_false (by omega)]
theorem spec_VersionOk_ev (a b c : Int) (l : List ByteArray) (hl : l.length ≤ 1125899906842624) (hs : ∀ x ∈ l, x.size ≤ 1099511627776) : Ev (fun k => spec_VersionOk.f k a b c l) (verOk a b c l) := by
 have hgo : Ev (fun k => spec_VersionOk.f k a b c l) (l.all (fun p => preOk (L p)) && (num9 a && (num9 b && (num9 c && decide (l.length ≤ 5))))) := by
  refine all_loop l ByteArray.empty (fun p => preOk (L p)) _ (fun k i => spec_VersionOk.l0 k i a b c l) ?_ ?_
  ·refine Ev.step (f := fun k => some (num9 a && (num9 b && (num9 c && decide (l.length ≤ 5))))) (fun k => ?_) (Ev.now _)
   show spec_VersionOk.l0 (k + 1) _ a b c l = _
   rw [spec_VersionOk.l0, if_neg (by omega), spec_num9, spec_num9, spec_num9, len5]
   cases num9 a <;> cases num9 b <;> cases num9 c <;> rfl
  ·intro i r hi hr
   have hx := spec_l02Pre_ev (l.getD i ByteArray.empty) (hs _ (getD_mem l i _ hi))
   refine Ev.step (f := fun k => (spec_l02Pre.f k (l.getD i ByteArray.empty)).bind fun t => if t = true then spec_VersionOk.l0 k ((i + 1 : Nat) : Int) a b c l else some false) (fun k => ?_) (Ev.bind hx ?_)
   ·show spec_VersionOk.l0 (k + 1) _ a b c l = _
    rw [spec_VersionOk.l0, if_pos (by omega), if_pos (by omega), wa1 i (by omega)]; rfl
   ·by_cases h : preOk (L (l.getD i ByteArray.empty)) = true
    ·rw [h, Bool.true_and]; exact ev_pos rfl hr
    ·simp only [Bool.not_eq_true] at h; rw [h]; exact ev_neg (by simp) (Ev.now _)
 refine ev_use hgo ?_
 unfold verOk
 cases num9 a <;> cases num9 b <;> cases num9 c <;> simp
theorem id_impl (c : UInt8) : impl_VersionOk_1.f (c.toNat : Int) = some (idc c) := by
 revert c; refine all_bytes ?_; decide +kernel
theorem impl_dgt (c : UInt8) : impl_isDigit.f (c.toNat : Int) = some (dgt c) := by
 revert c; refine all_bytes ?_; decide +kernel
theorem impl_all_id (s : ByteArray) (hs : s.size ≤ 1099511627776) : Ev (fun k => impl_all__impl_VersionOk_1.f k s) ((L s).all idc) := by
 have hsz := size_L s
 rw [← Bool.and_true ((L s).all idc)]
 refine all_loop (L s) 0 idc true (fun k i => impl_all__impl_VersionOk_1.l0 k s (s.size : Int) i) ?_ ?_
 ·exact Ev.step (f := fun k => some true) (fun k => by show impl_all__impl_VersionOk_1.l0 (k + 1) s _ _ = _; rw [impl_all__impl_VersionOk_1.l0, if_neg (by omega)]) (Ev.now _)
 ·intro i r hi hr
  rw [getD_at]
  have hb : bt s (i : Int) = ((at_ (L s) i).toNat : Int) := bt_nat s i
  by_cases h : idc (at_ (L s) i) = true
  ·rw [h, Bool.true_and]
   refine Ev.step (fun k => ?_) hr
   show impl_all__impl_VersionOk_1.l0 (k + 1) s _ _ = _
   rw [impl_all__impl_VersionOk_1.l0, if_pos (by omega), if_pos (by omega), if_pos (by omega), hb, id_impl, Option.bind_some, if_pos h, wa1 i (by omega)]
  ·refine Ev.step (f := fun k => some false) (fun k => ?_) (by simp only [Bool.not_eq_true] at h; rw [h]; exact Ev.now _)
   show impl_all__impl_VersionOk_1.l0 (k + 1) s _ _ = _
   rw [impl_all__impl_VersionOk_1.l0, if_pos (by omega), if_pos (by omega), if_pos (by omega), hb, id_impl, Option.bind_some, if_neg h]
theorem impl_all_dgt (s : ByteArray) (hs : s.size ≤ 1099511627776) : Ev (fun k => impl_all__impl_isDigit.f k s) ((L s).all dgt) := by
 have hsz := size_L s
 rw [← Bool.and_true ((L s).all dgt)]
 refine all_loop (L s) 0 dgt true (fun k i => impl_all__impl_isDigit.l0 k s (s.size : Int) i) ?_ ?_
 ·exact Ev.step (f := fun k => some true) (fun k => by show impl_all__impl_isDigit.l0 (k + 1) s _ _ = _; rw [impl_all__impl_isDigit.l0, if_neg (by omega)]) (Ev.now _)
 ·intro i r hi hr
  rw [getD_at]
  have hb : bt s (i : Int) = ((at_ (L s) i).toNat : Int) := bt_nat s i
  by_cases h : dgt (at_ (L s) i) = true
  ·rw [h, Bool.true_and]
   refine Ev.step (fun k => ?_) hr
   show impl_all__impl_isDigit.l0 (k + 1) s _ _ = _
   rw [impl_all__impl_isDigit.l0, if_pos (by omega), if_pos (by omega), if_pos (by omega), hb, impl_dgt, Option.bind_some, if_pos h, wa1 i (by omega)]
  ·refine Ev.step (f := fun k => some false) (fun k => ?_) (by simp only [Bool.not_eq_true] at h; rw [h]; exact Ev.now _)
   show impl_all__impl_isDigit.l0 (k + 1) s _ _ = _
   rw [impl_all__impl_isDigit.l0, if_pos (by omega), if_pos (by omega), if_pos (by omega), hb, impl_dgt, Option.bind_some, if_neg h]
theorem impl_isNumber_ev (s : ByteArray) (hs : s.size ≤ 1099511627776) : Ev (fun k => impl_isNumber.f k s) (isNum (L s)) := by
 unfold impl_isNumber.f isNum
 rw [toList_L]
 by_cases h : L s = []
 ·refine ev_use (ev_pos h (Ev.now _)) ?_
  rw [h]; rfl
 ·refine ev_use (ev_neg h (Ev.bind (impl_all_dgt s hs) (Ev.now _))) ?_
  have : (L s != []) = true := bne_iff_ne.2 h
  rw [this, Bool.and_true]
theorem impl_VersionOk_l1_ev (a b c : Int) (l : List ByteArray) (hl : l.length ≤ 1125899906842624) (hs : ∀ x ∈ l, x.size ≤ 1099511627776) : Ev (fun k => impl_VersionOk.l1 k l (l.length : Int) 0 a b c l) (l.all (fun p => preOk (L p)) && decide (l.length ≤ 5)) := by
 refine all_loop l ByteArray.empty (fun p => preOk (L p)) _ (fun k i => impl_VersionOk.l1 k l (l.length : Int) i a b c l) ?_ ?_
 ·refine Ev.step (f := fun k => some (decide (l.length ≤ 5))) (fun k => ?_) (Ev.now _)
  show impl_VersionOk.l1 (k + 1) l _ _ a b c l = _
  rw [impl_VersionOk.l1, if_neg (by omega), len5]
 ·intro i r hi hr
  have hm := hs _ (getD_mem l i ByteArray.empty hi)
  have ee : rdOf ByteArray.empty l (i : Int) = l.getD i ByteArray.empty := rfl
  refine Ev.step (f := fun k => (impl_within.f ((l.getD i ByteArray.empty).size : Int) 1 20).bind fun t320 => (if t320 = true then ((impl_all__impl_VersionOk_1.f k (l.getD i ByteArray.empty)).bind fun t321 => (if t321 = true then ((impl_isNumber.f k (l.getD i ByteArray.empty)).bind fun t322 => (if t322 = true then ((impl_ReadDec.f (l.getD i ByteArray.empty)).bind fun t323 => (if t323 < 0 then (some false) else (impl_VersionOk.l1 k l (l.length : Int) ((i + 1 : Nat) : Int) a b c l))) else (impl_VersionOk.l1 k l (l.length : Int) ((i + 1 : Nat) : Int) a b c l))) else (some false))) else (some false))) (fun k => ?_) ?_
  ·show impl_VersionOk.l1 (k + 1) l _ _ a b c l = _
   rw [impl_VersionOk.l1, if_pos (by omega), if_pos (by omega), if_pos (by omega), wa1 i (by omega), ee]
  ·generalize l.getD i ByteArray.empty = s at hm ⊢
   have hsz := size_L s
   refine ev_const (impl_within_eq _ _ _) ?_
   unfold preOk
   by_cases h1 : 1 ≤ (L s).length ∧ (L s).length ≤ 20
   ·rw [decide_eq_true h1, Bool.true_and]
    refine ev_pos (decide_eq_true (by omega)) (Ev.bind (impl_all_id s hm) ?_)
    by_cases h2 : (L s).all idc = true
    ·rw [h2, Bool.true_and]
     refine ev_pos rfl (Ev.bind (impl_isNumber_ev s hm) ?_)
     by_cases h3 : isNum (L s) = true
     ·rw [h3, Bool.not_true, Bool.false_or]
      refine ev_pos rfl (ev_const (impl_ReadDec_eq s hm) ?_)
      by_cases h4 : 0 ≤ rdec (L s)
      ·rw [decide_eq_true h4, Bool.true_and]; exact ev_neg (by omega) hr
      ·rw [decide_eq_false h4, Bool.false_and]; exact ev_pos (by omega) (Ev.now _)
     ·refine ev_neg h3 ?_
      simp only [Bool.not_eq_true] at h3; rw [h3, Bool.not_false, Bool.true_or, Bool.true_and]; exact hr
    ·refine ev_neg h2 ?_
     simp only [Bool.not_eq_true] at h2; rw [h2]; exact Ev.now _
   ·rw [decide_eq_false h1, Bool.false_and, Bool.and_false]
    exact ev_neg (by simp; omega) (Ev.now _)
theorem impl_VersionOk_ev (a b c : Int) (l : List ByteArray) (hl : l.length ≤ 1125899906842624) (hs : ∀ x ∈ l, x.size ≤ 1099511627776) : Ev (fun k => impl_VersionOk.f k a b c l) (verOk a b c l) := by
 have hgo : Ev (fun k => impl_VersionOk.l0 k [a, b, c] ((([a, b, c] : List Int).length : Nat) : Int) 0 a b c l) (([a, b, c] : List Int).all num9 && (l.all (fun p => preOk (L p)) && decide (l.length ≤ 5))) := by
  refine all_loop [a, b, c] 0 num9 _ (fun k i => impl_VersionOk.l0 k [a, b, c] ((([a, b, c] : List Int).length : Nat) : Int) i a b c l) ?_ ?_
  ·refine Ev.step (fun k => ?_) (impl_VersionOk_l1_ev a b c l hl hs)
   show impl_VersionOk.l0 (k + 1) _ _ _ a b c l = _
   rw [impl_VersionOk.l0, if_neg (by omega)]
  ·intro i r hi hr
   have ee : rd [a, b, c] (i : Int) = ([a, b, c] : List Int).getD i 0 := rfl
   have hi3 : i < 3 := hi
   refine Ev.step (f := fun k => if num9 (([a, b, c] : List Int).getD i 0) = true then impl_VersionOk.l0 k [a, b, c] ((([a, b, c] : List Int).length : Nat) : Int) ((i + 1 : Nat) : Int) a b c l else some false) (fun k => ?_) ?_
   ·show impl_VersionOk.l0 (k + 1) _ _ _ a b c l = _
    rw [impl_VersionOk.l0, if_pos (by omega), if_pos (by omega), if_pos (by omega), wa1 i (by omega), ee, impl_num9, Option.bind_some]
   ·by_cases h : num9 (([a, b, c] : List Int).getD i 0) = true
    ·rw [h, Bool.true_and]; exact ev_pos rfl hr
    ·simp only [Bool.not_eq_true] at h; rw [h]; exact ev_neg (by simp) (Ev.now _)
 refine ev_use (ev_some hgo) ?_
 unfold verOk
 simp [Bool.and_assoc]
def vtail (l : List ByteArray) : B := if l = [] then [] else 45 :: Lib.join (l.map L) [46]
def vcore (a b c : Int) : B := Lib.itoa a ++ (46 :: (Lib.itoa b ++ (46 :: Lib.itoa c)))
def vtext (a b c : Int) (l : List ByteArray) : B := if verOk a b c l = true then vcore a b c ++ vtail l else []
theorem num9_is {n : Int} (h : num9 n = true) : 0 ≤ n ∧ n ≤ 999999999 := of_decide_eq_true h
theorem verOk_is {a b c : Int} {l : List ByteArray} (h : verOk a b c l = true) : (0 ≤ a ∧ a ≤ 999999999) ∧ (0 ≤ b ∧ b ≤ 999999999) ∧ (0 ≤ c ∧ c ≤ 999999999) ∧ l.length ≤ 5 ∧ ∀ x ∈ l, preOk (L x) = true := by
 unfold verOk at h
 simp only [Bool.and_eq_true, List.all_eq_true, decide_eq_true_eq] at h
 exact ⟨num9_is h.1.1.1, num9_is h.1.1.2, num9_is h.1.2, h.2.2, h.2.1⟩
theorem preOk_len {l : B} (h : preOk l = true) : 1 ≤ l.length ∧ l.length ≤ 20 := by
 unfold preOk at h
 simp only [Bool.and_eq_true, decide_eq_true_eq] at h
 exact h.2.1
theorem itoa9 {n : Int} (h : 0 ≤ n ∧ n ≤ 999999999) : (Lib.itoa n).length ≤ 9 := by
 have e : n = ((n.toNat : Nat) : Int) := by omega
 rw [e, itoa_nat]
 exact dec_len_le 8 _ (by rw [show 8 + 1 = 9 from rfl, p9]; omega)
theorem joinTail_len : ∀ (r : List ByteArray), (∀ x ∈ r, (L x).length ≤ 20) → (Lib.joinTail [46] (r.map L)).length ≤ 21 * r.length
 | [], _ => by simp [Lib.joinTail]
 | x :: r, h => by
  have := joinTail_len r fun y hy => h y (by simp [hy])
  have hx := h x (by simp)
  unfold Lib.joinTail at *
  rw [List.map_cons, List.map_cons, List.flatten_cons, List.length_append, List.length_append, List.length_cons]
  simp at *; omega
theorem vtail_len {l : List ByteArray} (h5 : l.length ≤ 5) (h : ∀ x ∈ l, (L x).length ≤ 20) : (vtail l).length ≤ 106 := by
 unfold vtail
 cases l with
 | nil => simp
 | cons x r =>
  rw [if_neg (by simp), List.map_cons, Lib.join_cons, List.length_cons, List.length_append]
  have := joinTail_len r fun y hy => h y (by simp [hy])
  have hx := h x (by simp)
  simp at h5; omega
theorem vcore_len {a b c : Int} (ha : 0 ≤ a ∧ a ≤ 999999999) (hb : 0 ≤ b ∧ b ≤ 999999999) (hc : 0 ≤ c ∧ c ≤ 999999999) : (vcore a b c).length ≤ 29 := by
 have := itoa9 ha; have := itoa9 hb; have := itoa9 hc
 unfold vcore; simp; omega
theorem vtext_len (a b c : Int) (l : List ByteArray) : (vtext a b c l).length ≤ 135 := by
 unfold vtext
 by_cases h : verOk a b c l = true
 ·obtain ⟨ha, hb, hc, h5, hl⟩ := verOk_is h
  have := vcore_len ha hb hc
  have := vtail_len h5 fun x hx => (preOk_len (hl x hx)).2
  rw [if_pos h, List.length_append]; omega
 ·rw [if_neg h]; simp
theorem core_S (a b c : Int) : (((S (Lib.itoa a) ++ (⟨#[46]⟩ : ByteArray)) ++ S (Lib.itoa b)) ++ (⟨#[46]⟩ : ByteArray)) ++ S (Lib.itoa c) = S (vcore a b c) := by
 apply L_inj
 rw [L_S]
 simp only [L_append, L_S]
 show ((Lib.itoa a ++ [46]) ++ Lib.itoa b ++ [46]) ++ Lib.itoa c = _
 unfold vcore; simp
theorem one_size (c : UInt8) : (⟨#[c]⟩ : ByteArray).size = 1 := rfl
theorem put_sep (acc : B) (c : UInt8) (x : ByteArray) : (S acc ++ (⟨#[c]⟩ : ByteArray)) ++ x = S (acc ++ (c :: L x)) := by
 apply L_inj; rw [L_S, L_append, L_append, L_S]
 show (acc ++ [c]) ++ L x = _
 simp
theorem spec_VersionText_l (a b c : Int) (l : List ByteArray) (h5 : l.length ≤ 5) (h20 : ∀ x ∈ l, (L x).length ≤ 20) : ∀ d i (acc : B), i + d = l.length → 1 ≤ i → acc.length ≤ 100 + 21 * i →
  Ev (fun k => spec_VersionText.l0 k (S acc) (i : Int) a b c l) (S (acc ++ Lib.joinTail [46] ((l.drop i).map L))) := by
 intro d
 induction d with
 | zero =>
  intro i acc hi h1 ha
  rw [List.drop_of_length_le (by omega)]
  refine Ev.step (f := fun k => some (S acc)) (fun k => by rw [spec_VersionText.l0, if_neg (by omega)]) (ev_use (Ev.now _) ?_)
  simp [Lib.joinTail]
 | succ d ih =>
  intro i acc hi h1 ha
  have hlt : i < l.length := by omega
  have hm := h20 _ (getD_mem l i ByteArray.empty hlt)
  have ee : rdOf ByteArray.empty l (i : Int) = l.getD i ByteArray.empty := rfl
  rw [drop_getD l i ByteArray.empty hlt, List.map_cons]
  have e2 : Lib.joinTail [46] (L (l.getD i ByteArray.empty) :: (l.drop (i + 1)).map L) = (46 :: L (l.getD i ByteArray.empty)) ++ Lib.joinTail [46] ((l.drop (i + 1)).map L) := by
   unfold Lib.joinTail; rw [List.map_cons, List.flatten_cons]; rfl
  rw [e2, ← List.append_assoc]
  refine Ev.step (fun k => ?_) (ih (i + 1) _ (by omega) (by omega) (by rw [List.length_append, List.length_cons]; omega))
  rw [spec_VersionText.l0, if_pos (by omega), if_neg (by omega), if_pos (by rw [size_S]; omega), if_pos (by omega), ee, if_pos (by rw [ByteArray.size_append, size_S, one_size, size_L]; omega), put_sep, wa1 i (by omega)]
theorem spec_VersionText_ev (a b c : Int) (l : List ByteArray) (hl : l.length ≤ 1125899906842624) (hs : ∀ x ∈ l, x.size ≤ 1099511627776) : Ev (fun k => spec_VersionText.f k a b c l) (S (vtext a b c l)) := by
 unfold spec_VersionText.f vtext
 refine Ev.bind (spec_VersionOk_ev a b c l hl hs) ?_
 by_cases h : verOk a b c l = true
 ·obtain ⟨ha, hb, hc, h5, hall⟩ := verOk_is h
  have h20 : ∀ x ∈ l, (L x).length ≤ 20 := fun x hx => (preOk_len (hall x hx)).2
  have la := itoa9 ha; have lb := itoa9 hb; have lc := itoa9 hc
  rw [if_pos h]
  refine ev_pos h (Ev.bind (spec_DecText_ev a (by omega) (by omega)) (ev_pos (by rw [size_S]; omega) (Ev.bind (spec_DecText_ev b (by omega) (by omega)) ?_)))
  refine ev_pos (by rw [ByteArray.size_append, size_S, size_S, one_size]; omega) (ev_pos (by rw [ByteArray.size_append, ByteArray.size_append, size_S, size_S, one_size]; omega) (Ev.bind (spec_DecText_ev c (by omega) (by omega)) ?_))
  refine ev_pos (by simp only [ByteArray.size_append, size_S, one_size]; omega) ?_
  rw [core_S]
  have lv := vcore_len ha hb hc
  cases l with
  | nil =>
   refine Ev.step (f := fun k => some (S (vcore a b c))) (fun k => by rw [spec_VersionText.l0, if_neg (by simp)]) (ev_use (Ev.now _) ?_)
   simp [vtail]
  | cons x r =>
   have hx := h20 x (by simp)
   have e2 : vcore a b c ++ vtail (x :: r) = (vcore a b c ++ (45 :: L x)) ++ Lib.joinTail [46] (((x :: r).drop 1).map L) := by
    unfold vtail
    rw [if_neg (by simp), List.map_cons, Lib.join_cons, List.append_assoc]; rfl
   rw [e2]
   refine Ev.step (fun k => ?_) (spec_VersionText_l a b c (x :: r) h5 h20 r.length 1 _ (by simp; omega) (by omega) (by rw [List.length_append, List.length_cons]; omega))
   have ee : rdOf ByteArray.empty (x :: r) 0 = x := rfl
   rw [spec_VersionText.l0, if_pos (by simp), if_pos rfl, if_pos (by rw [size_S]; omega), if_pos (by omega), ee, if_pos (by rw [ByteArray.size_append, size_S, one_size, size_L]; omega), put_sep, show wrap64 (0 + 1) = ((1 : Nat) : Int) from wa1 0 (by omega)]
 ·rw [if_neg h]
  exact ev_neg h (Ev.now _)
theorem join_some (l : List ByteArray) (h5 : l.length ≤ 5) (h20 : ∀ x ∈ l, (L x).length ≤ 20) : strings_Join.f l (⟨#[46]⟩ : ByteArray) = some (S (Lib.join (l.map L) [46])) := by
 unfold strings_Join.f
 have e : (l.map (·.data.toList)) = l.map L := rfl
 have e2 : (⟨#[46]⟩ : ByteArray).data.toList = [46] := rfl
 rw [e, e2, if_pos]
 ·rfl
 ·refine ⟨by omega, ?_⟩
  cases l with
  | nil => simp [Lib.join, List.intercalate]
  | cons x r =>
   rw [List.map_cons, Lib.join_cons, List.length_append]
   have := joinTail_len r fun y hy => h20 y (by simp [hy])
   have hx := h20 x (by simp)
   simp at h5; omega
theorem impl_VersionText_ev (a b c : Int) (l : List ByteArray) (hl : l.length ≤ 1125899906842624) (hs : ∀ x ∈ l, x.size ≤ 1099511627776) : Ev (fun k => impl_VersionText.f k a b c l) (S (vtext a b c l)) := by
 unfold impl_VersionText.f vtext
 refine Ev.bind (impl_VersionOk_ev a b c l hl hs) ?_
 by_cases h : verOk a b c l = true
 ·obtain ⟨ha, hb, hc, h5, hall⟩ := verOk_is h
  have h20 : ∀ x ∈ l, (L x).length ≤ 20 := fun x hx => (preOk_len (hall x hx)).2
  have la := itoa9 ha; have lb := itoa9 hb; have lc := itoa9 hc
  refine ev_pos h ?_
  rw [if_pos h]
  refine ev_const (impl_DecText_eq a (by omega) (by omega)) ?_
  refine ev_pos (by rw [size_S]; omega) (ev_const (impl_DecText_eq b (by omega) (by omega)) ?_)
  refine ev_pos (by rw [ByteArray.size_append, size_S, size_S, one_size]; omega) (ev_pos (by rw [ByteArray.size_append, ByteArray.size_append, size_S, size_S, one_size]; omega) (ev_const (impl_DecText_eq c (by omega) (by omega)) ?_))
  refine ev_pos (by simp only [ByteArray.size_append, size_S, one_size]; omega) ?_
  rw [core_S]
  have lv := vcore_len ha hb hc
  cases l with
  | nil => exact ev_use (ev_neg (by simp) (Ev.now _)) (by simp [vtail])
  | cons x r =>
   have lt := vtail_len h5 h20
   have et : vtail (x :: r) = 45 :: Lib.join ((x :: r).map L) [46] := by unfold vtail; rw [if_neg (by simp)]
   rw [et, List.length_cons] at lt
   rw [et]
   refine ev_pos (by simp only [List.length_cons]; omega) ?_
   refine ev_const (join_some _ h5 h20) ?_
   refine ev_pos (by rw [size_S]; omega) ?_
   refine ev_pos (by simp only [ByteArray.size_append, size_S, one_size]; omega) ?_
   refine ev_use (Ev.now _) ?_
   apply L_inj
   rw [L_append, L_append, L_S, L_S, L_S]; rfl
 ·exact ev_use (ev_neg h (Ev.now _)) (by rw [if_neg h]; rfl)
end Go.Proofs.YtieohddolkeegaaGreatDoor.U

end
