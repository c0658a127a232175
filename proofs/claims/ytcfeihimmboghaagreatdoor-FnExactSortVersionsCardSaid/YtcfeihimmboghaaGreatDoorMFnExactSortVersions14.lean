/- A part of the proof that the law FnExactSortVersions answers true at every input that its row speaks of. Conditions: the row's own. -/
import Derived.Test.YtcfeihimmboghaaGreatDoorMFnExactSortVersions2
import Derived.Test.YtcfeihimmboghaaGreatDoorMFnExactSortVersions11
import Derived.Test.YtcfeihimmboghaaGreatDoorMFnExactSortVersions12
import Derived.Test.YtcfeihimmboghaaGreatDoorMFnExactSortVersions13
import Derived.Test.YtcfeihimmboghaaGreatDoorKFnExactSortVersions0
section
namespace Go.Proofs.YtcfeihimmboghaaGreatDoor.G
open Go.RowKit Go.Proofs.YtcfeihimmboghaaGreatDoorW.PrintWords Go.Proofs.YtcfeihimmboghaaGreatDoorW.PrintLast Go.Proofs.YtcfeihimmboghaaGreatDoorW.PrintMore
attribute [local go_sem] max2_int min2_int max_two min_two max_three min_three max_four min_four
attribute [local go_sem high] Go.Proofs.YtcfeihimmboghaaGreatDoor.G.str_gtr Go.Proofs.YtcfeihimmboghaaGreatDoor.G.str_leq Go.Proofs.YtcfeihimmboghaaGreatDoor.G.str_geq
set_option linter.unusedVariables false
set_option linter.unusedSimpArgs false
set_option maxHeartbeats 8000000 in
set_option maxRecDepth 100000 in
theorem laws_FnExactSortVersions.calls (k : Nat) (A0 : Option Addr) (c0 : Nat) (l0 : List ByteArray) (r : Bool) (w : World) (hr0 : Kd.C Kd.string w A0 l0.length l0) (hc0 : l0.length ≤ c0) (hGE : Glob FactE w) (hGM : Glob FactM w) (hGT : Glob FactT w) (hr_ : r = true) (h : laws_FnExactSortVersions.f k l0 = some r) :
  Calls Tryz.prog 6 #[.slice A0 l0.length c0] w fun e w' => e = .returned (.bool r) ∧ Below w.heap.size w w' := by
 have HR0 := Aside0.mk hr0
 have HC0 := Aside0.mk hc0
 clear hr0 hc0
 have HB := Aside0.mk (Below.refl w.heap.size w)
 have HGE := Aside0.mk hGE
 clear hGE
 have HGM := Aside0.mk hGM
 clear hGM
 have HGT := Aside0.mk hGT
 clear hGT
 have H : ((laws_szStringS.f k l0 1048576).bind fun t273 => (if t273 < 0 then (some true) else ((laws_toStringS.f k l0).bind fun t274 => ((spec_SortVersions.f k t274).bind fun t277 => ((laws_toStringS.f k l0).bind fun t280 => ((impl_SortVersions.f t280).bind fun t283 => ((laws_eqStringS.f k t283 t277).bind fun t286 => (if t286 = true then ((laws_toStringS.f k l0).bind fun t287 => ((laws_eqStringS.f k t280 t287).bind fun t290 => (if t290 = true then ((laws_markStringS.f k t280 1).bind fun bt291 => (if bt291.1 < 0 then (laws_FnExactSortVersions.j0 k l0 t277 t283 true) else ((laws_eqStringS.f k t283 t277).bind fun t293 => (laws_FnExactSortVersions.j0 k l0 t277 t283 (!t293))))) else (some false)))) else (some false))))))))) = some r := h
 clear h
 replace H := Option.bind_eq_some_iff.mp H
 obtain ⟨t273, A20, H⟩ := H
 replace H : (if t273 < 0 then (some true) else ((laws_toStringS.f k l0).bind fun t274 => ((spec_SortVersions.f k t274).bind fun t277 => ((laws_toStringS.f k l0).bind fun t280 => ((impl_SortVersions.f t280).bind fun t283 => ((laws_eqStringS.f k t283 t277).bind fun t286 => (if t286 = true then ((laws_toStringS.f k l0).bind fun t287 => ((laws_eqStringS.f k t280 t287).bind fun t290 => (if t290 = true then ((laws_markStringS.f k t280 1).bind fun bt291 => (if bt291.1 < 0 then (laws_FnExactSortVersions.j0 k l0 t277 t283 true) else ((laws_eqStringS.f k t283 t277).bind fun t293 => (laws_FnExactSortVersions.j0 k l0 t277 t283 (!t293))))) else (some false)))) else (some false)))))))) = some r := H
 have A2 := Aside0.mk A20
 clear A20
 by_cases c3 : t273 < 0
 ·rw [if_pos c3] at H
  have c3b0 : decide (t273 < 0) = true := decide_eq_true c3
  clear c3
  obtain rfl := Option.some.inj H
  go_enter Tryz.func6, Tryz.ntmps6
  go_wp2_with (first | ((with_reducible refine gate_callee (f := 68) rfl ?_); refine goesL_ (some 13) rfl rfl Tryz.func68 (by kernel_rfl) rfl #[.slice A0 l0.length c0, .int .i64 1048576] rfl (by (try simp only [List.map_toArray, List.map_cons, List.map_nil]); first | done | rfl | (simp only [List.length_drop, List.length_take]; rfl)) ?_; (with_reducible refine (laws_szStringS.calls k _ _ l0 1048576 t273 _ ?side1 ?side2 A2.out).mono ?_); (case side1 => repeat (first | exact HR0.out | (with_reducible refine Kd.C_alloc ?_ _) | (with_reducible refine Kd.C_drewN ?_ _) | (with_reducible refine Kd.C_drew ?_))); (case side2 => exact HC0.out); rintro e w' ⟨rfl, ⟨nd, rfl⟩⟩; refine ⟨_, rfl, ?_⟩))
  go_ret
  exact ⟨by first | rfl | (simp [errW_none, errW_some] <;> rfl) | (simp [*, errW_none, errW_some] <;> rfl), by repeat (first | (with_reducible first | exact HB.out | apply below_alloc | apply pw_below_drewN | apply below_drew1) | exact HB.out)⟩
 ·rw [if_neg c3] at H
  have c3b0 : decide (t273 < 0) = false := decide_eq_false c3
  clear c3
  replace H := Option.bind_eq_some_iff.mp H
  obtain ⟨t274, A40, H⟩ := H
  replace H : ((spec_SortVersions.f k t274).bind fun t277 => ((laws_toStringS.f k l0).bind fun t280 => ((impl_SortVersions.f t280).bind fun t283 => ((laws_eqStringS.f k t283 t277).bind fun t286 => (if t286 = true then ((laws_toStringS.f k l0).bind fun t287 => ((laws_eqStringS.f k t280 t287).bind fun t290 => (if t290 = true then ((laws_markStringS.f k t280 1).bind fun bt291 => (if bt291.1 < 0 then (laws_FnExactSortVersions.j0 k l0 t277 t283 true) else ((laws_eqStringS.f k t283 t277).bind fun t293 => (laws_FnExactSortVersions.j0 k l0 t277 t283 (!t293))))) else (some false)))) else (some false)))))) = some r := H
  have A4 := Aside0.mk A40
  clear A40
  replace H := Option.bind_eq_some_iff.mp H
  obtain ⟨t277, A50, H⟩ := H
  replace H : ((laws_toStringS.f k l0).bind fun t280 => ((impl_SortVersions.f t280).bind fun t283 => ((laws_eqStringS.f k t283 t277).bind fun t286 => (if t286 = true then ((laws_toStringS.f k l0).bind fun t287 => ((laws_eqStringS.f k t280 t287).bind fun t290 => (if t290 = true then ((laws_markStringS.f k t280 1).bind fun bt291 => (if bt291.1 < 0 then (laws_FnExactSortVersions.j0 k l0 t277 t283 true) else ((laws_eqStringS.f k t283 t277).bind fun t293 => (laws_FnExactSortVersions.j0 k l0 t277 t283 (!t293))))) else (some false)))) else (some false))))) = some r := H
  have A5 := Aside0.mk A50
  clear A50
  replace H := Option.bind_eq_some_iff.mp H
  obtain ⟨t280, A60, H⟩ := H
  replace H : ((impl_SortVersions.f t280).bind fun t283 => ((laws_eqStringS.f k t283 t277).bind fun t286 => (if t286 = true then ((laws_toStringS.f k l0).bind fun t287 => ((laws_eqStringS.f k t280 t287).bind fun t290 => (if t290 = true then ((laws_markStringS.f k t280 1).bind fun bt291 => (if bt291.1 < 0 then (laws_FnExactSortVersions.j0 k l0 t277 t283 true) else ((laws_eqStringS.f k t283 t277).bind fun t293 => (laws_FnExactSortVersions.j0 k l0 t277 t283 (!t293))))) else (some false)))) else (some false)))) = some r := H
  have A6 := Aside0.mk A60
  clear A60
  replace H := Option.bind_eq_some_iff.mp H
  obtain ⟨t283, A70, H⟩ := H
  replace H : ((laws_eqStringS.f k t283 t277).bind fun t286 => (if t286 = true then ((laws_toStringS.f k l0).bind fun t287 => ((laws_eqStringS.f k t280 t287).bind fun t290 => (if t290 = true then ((laws_markStringS.f k t280 1).bind fun bt291 => (if bt291.1 < 0 then (laws_FnExactSortVersions.j0 k l0 t277 t283 true) else ((laws_eqStringS.f k t283 t277).bind fun t293 => (laws_FnExactSortVersions.j0 k l0 t277 t283 (!t293))))) else (some false)))) else (some false))) = some r := H
  have A7 := Aside0.mk A70
  clear A70
  replace H := Option.bind_eq_some_iff.mp H
  obtain ⟨t286, A80, H⟩ := H
  replace H : (if t286 = true then ((laws_toStringS.f k l0).bind fun t287 => ((laws_eqStringS.f k t280 t287).bind fun t290 => (if t290 = true then ((laws_markStringS.f k t280 1).bind fun bt291 => (if bt291.1 < 0 then (laws_FnExactSortVersions.j0 k l0 t277 t283 true) else ((laws_eqStringS.f k t283 t277).bind fun t293 => (laws_FnExactSortVersions.j0 k l0 t277 t283 (!t293))))) else (some false)))) else (some false)) = some r := H
  have A8 := Aside0.mk A80
  clear A80
  by_cases c9 : t286 = true
  ·subst c9
   have H1 : ((laws_toStringS.f k l0).bind fun t287 => ((laws_eqStringS.f k t280 t287).bind fun t290 => (if t290 = true then ((laws_markStringS.f k t280 1).bind fun bt291 => (if bt291.1 < 0 then (laws_FnExactSortVersions.j0 k l0 t277 t283 true) else ((laws_eqStringS.f k t283 t277).bind fun t293 => (laws_FnExactSortVersions.j0 k l0 t277 t283 (!t293))))) else (some false)))) = some r := by rw [if_pos rfl] at H; exact H
   clear H
   have H := H1
   clear H1
   replace H := Option.bind_eq_some_iff.mp H
   obtain ⟨t287, A100, H⟩ := H
   replace H : ((laws_eqStringS.f k t280 t287).bind fun t290 => (if t290 = true then ((laws_markStringS.f k t280 1).bind fun bt291 => (if bt291.1 < 0 then (laws_FnExactSortVersions.j0 k l0 t277 t283 true) else ((laws_eqStringS.f k t283 t277).bind fun t293 => (laws_FnExactSortVersions.j0 k l0 t277 t283 (!t293))))) else (some false))) = some r := H
   have A10 := Aside0.mk A100
   clear A100
   replace H := Option.bind_eq_some_iff.mp H
   obtain ⟨t290, A110, H⟩ := H
   replace H : (if t290 = true then ((laws_markStringS.f k t280 1).bind fun bt291 => (if bt291.1 < 0 then (laws_FnExactSortVersions.j0 k l0 t277 t283 true) else ((laws_eqStringS.f k t283 t277).bind fun t293 => (laws_FnExactSortVersions.j0 k l0 t277 t283 (!t293))))) else (some false)) = some r := H
   have A11 := Aside0.mk A110
   clear A110
   by_cases c12 : t290 = true
   ·subst c12
    have H1 : ((laws_markStringS.f k t280 1).bind fun bt291 => (if bt291.1 < 0 then (laws_FnExactSortVersions.j0 k l0 t277 t283 true) else ((laws_eqStringS.f k t283 t277).bind fun t293 => (laws_FnExactSortVersions.j0 k l0 t277 t283 (!t293))))) = some r := by rw [if_pos rfl] at H; exact H
    clear H
    have H := H1
    clear H1
    replace H := Option.bind_eq_some_iff.mp H
    obtain ⟨⟨t291, t292⟩, A130, H⟩ := H
    replace H : (if t291 < 0 then (laws_FnExactSortVersions.j0 k l0 t277 t283 true) else ((laws_eqStringS.f k t283 t277).bind fun t293 => (laws_FnExactSortVersions.j0 k l0 t277 t283 (!t293)))) = some r := H
    have A13 := Aside0.mk A130
    clear A130
    have HC14 := Aside0.mk H
    clear H
    go_enter Tryz.func6, Tryz.ntmps6
    go_upto_region 14 with (first | ((with_reducible refine gate_callee (f := 68) rfl ?_); refine goesL_ (some 13) rfl rfl Tryz.func68 (by kernel_rfl) rfl #[.slice A0 l0.length c0, .int .i64 1048576] rfl (by (try simp only [List.map_toArray, List.map_cons, List.map_nil]); first | done | rfl | (simp only [List.length_drop, List.length_take]; rfl)) ?_; (with_reducible refine (laws_szStringS.calls k _ _ l0 1048576 t273 _ ?side1 ?side2 A2.out).mono ?_); (case side1 => repeat (first | exact HR0.out | (with_reducible refine Kd.C_alloc ?_ _) | (with_reducible refine Kd.C_drewN ?_ _) | (with_reducible refine Kd.C_drew ?_))); (case side2 => exact HC0.out); rintro e w' ⟨rfl, ⟨nd, rfl⟩⟩; refine ⟨_, rfl, ?_⟩) | ((with_reducible refine gate_callee (f := 70) rfl ?_); refine goesL_ (some 17) rfl rfl Tryz.func70 (by kernel_rfl) rfl #[.slice A0 l0.length c0] rfl (by (try simp only [List.map_toArray, List.map_cons, List.map_nil]); first | done | rfl | (simp only [List.length_drop, List.length_take]; rfl)) ?_; (with_reducible refine (laws_toStringS.calls k _ _ l0 t274 _ ?side1 ?side2 A4.out).mono ?_); (case side1 => repeat (first | exact HR0.out | (with_reducible refine Kd.C_alloc ?_ _) | (with_reducible refine Kd.C_drewN ?_ _) | (with_reducible refine Kd.C_drew ?_))); (case side2 => exact HC0.out); rintro e w15 ⟨v275, rfl, ho0, hb⟩; refine ⟨_, rfl, ?_⟩; have n0_ := Aside0.mk (Kd.R_lower ho0 (below_size (by repeat (first | (with_reducible first | exact HB.out | apply below_alloc | apply pw_below_drewN | apply below_drew1) | exact HB.out)))); have n1_ := Aside0.mk (below_step (by repeat (first | (with_reducible first | exact HB.out | apply below_alloc | apply pw_below_drewN | apply below_drew1) | exact HB.out)) hb); clear HB; have HO276 := n0_; have HB := n1_; clear n0_ n1_; (try clear hb); (try clear ho0); obtain ⟨Ao16, co16, eo16⟩ := Kd.R_slice HO276.out; subst eo16) | ((with_reducible refine gate_callee (f := 69) rfl ?_); refine goesL_ (some 18) rfl rfl Tryz.func69 (by kernel_rfl) rfl #[.slice Ao16 t274.length co16] rfl (by (try simp only [List.map_toArray, List.map_cons, List.map_nil]); first | done | rfl | (simp only [List.length_drop, List.length_take]; rfl)) ?_; (with_reducible refine (spec_SortVersions.calls k _ _ t274 t277 _ ?side1 ?side2 ?side3 ?side4 ?side5 A5.out).mono ?_); (case side1 => repeat (first | exact (Kd.R_reads' HO276.out).2.2 | (with_reducible refine Kd.C_alloc ?_ _) | (with_reducible refine Kd.C_drewN ?_ _) | (with_reducible refine Kd.C_drew ?_))); (case side2 => exact (Kd.R_reads' HO276.out).2.1); (case side3 => exact Glob.below HGE.out (by repeat (first | (with_reducible first | exact HB.out | apply below_alloc | apply pw_below_drewN | apply below_drew1) | exact HB.out))); (case side4 => exact Glob.below HGM.out (by repeat (first | (with_reducible first | exact HB.out | apply below_alloc | apply pw_below_drewN | apply below_drew1) | exact HB.out))); (case side5 => exact Glob.below HGT.out (by repeat (first | (with_reducible first | exact HB.out | apply below_alloc | apply pw_below_drewN | apply below_drew1) | exact HB.out))); rintro e w17 ⟨v278, rfl, ho0, hb⟩; refine ⟨_, rfl, ?_⟩; have n0_ := Aside0.mk (Kd.R_elder' (by (with_reducible repeat (first | apply Kd.R_alloc | apply Kd.R_drewN | apply Kd.R_drew)); exact HO276.out) (Kd.R_base ho0) hb); have n1_ := Aside0.mk (Kd.R_lower (Kd.R_new' ho0 (Kd.R_lt (by (with_reducible repeat (first | apply Kd.R_alloc | apply Kd.R_drewN | apply Kd.R_drew)); exact HO276.out))) (below_size (by repeat (first | (with_reducible first | exact HB.out | apply below_alloc | apply pw_below_drewN | apply below_drew1) | exact HB.out)))); have n2_ := Aside0.mk (below_step (by repeat (first | (with_reducible first | exact HB.out | apply below_alloc | apply pw_below_drewN | apply below_drew1) | exact HB.out)) hb); clear HO276; clear HB; have HO276 := n0_; have HO279 := n1_; have HB := n2_; clear n0_ n1_ n2_; (try clear hb); (try clear ho0)) | ((with_reducible refine gate_callee (f := 70) rfl ?_); refine goesL_ (some 20) rfl rfl Tryz.func70 (by kernel_rfl) rfl #[.slice A0 l0.length c0] rfl (by (try simp only [List.map_toArray, List.map_cons, List.map_nil]); first | done | rfl | (simp only [List.length_drop, List.length_take]; rfl)) ?_; (with_reducible refine (laws_toStringS.calls k _ _ l0 t280 _ ?side1 ?side2 A6.out).mono ?_); (case side1 => repeat (first | exact (Kd.C_below HR0.out HB.out) | (with_reducible refine Kd.C_alloc ?_ _) | (with_reducible refine Kd.C_drewN ?_ _) | (with_reducible refine Kd.C_drew ?_))); (case side2 => exact HC0.out); rintro e w18 ⟨v281, rfl, ho0, hb⟩; refine ⟨_, rfl, ?_⟩; have n0_ := Aside0.mk (Kd.R_elder' (by (with_reducible repeat (first | apply Kd.R_alloc | apply Kd.R_drewN | apply Kd.R_drew)); exact HO276.out) (Kd.R_base ho0) hb); have n1_ := Aside0.mk (Kd.R_elder' (by (with_reducible repeat (first | apply Kd.R_alloc | apply Kd.R_drewN | apply Kd.R_drew)); exact HO279.out) (Kd.R_base ho0) hb); have n2_ := Aside0.mk (Kd.R_lower (Kd.R_new' (Kd.R_new' ho0 (Kd.R_lt (by (with_reducible repeat (first | apply Kd.R_alloc | apply Kd.R_drewN | apply Kd.R_drew)); exact HO276.out))) (Kd.R_lt (by (with_reducible repeat (first | apply Kd.R_alloc | apply Kd.R_drewN | apply Kd.R_drew)); exact HO279.out))) (below_size (by repeat (first | (with_reducible first | exact HB.out | apply below_alloc | apply pw_below_drewN | apply below_drew1) | exact HB.out)))); have n3_ := Aside0.mk (below_step (by repeat (first | (with_reducible first | exact HB.out | apply below_alloc | apply pw_below_drewN | apply below_drew1) | exact HB.out)) hb); clear HO276; clear HO279; clear HB; have HO276 := n0_; have HO279 := n1_; have HO282 := n2_; have HB := n3_; clear n0_ n1_ n2_ n3_; (try clear hb); (try clear ho0); obtain ⟨Ao19, co19, eo19⟩ := Kd.R_slice HO282.out; subst eo19) | ((with_reducible refine gate_callee (f := 71) rfl ?_); refine goesL_ (some 22) rfl rfl Tryz.func71 (by kernel_rfl) rfl #[.slice Ao19 t280.length co19] rfl (by (try simp only [List.map_toArray, List.map_cons, List.map_nil]); first | done | rfl | (simp only [List.length_drop, List.length_take]; rfl)) ?_; (with_reducible refine (impl_SortVersions.calls _ _ t280 t283 _ ?side1 ?side2 ?side3 ?side4 ?side5 A7.out).mono ?_); (case side1 => repeat (first | exact (Kd.R_reads' HO282.out).2.2 | (with_reducible refine Kd.C_alloc ?_ _) | (with_reducible refine Kd.C_drewN ?_ _) | (with_reducible refine Kd.C_drew ?_))); (case side2 => exact (Kd.R_reads' HO282.out).2.1); (case side3 => exact Glob.below HGE.out (by repeat (first | (with_reducible first | exact HB.out | apply below_alloc | apply pw_below_drewN | apply below_drew1) | exact HB.out))); (case side4 => exact Glob.below HGM.out (by repeat (first | (with_reducible first | exact HB.out | apply below_alloc | apply pw_below_drewN | apply below_drew1) | exact HB.out))); (case side5 => exact Glob.below HGT.out (by repeat (first | (with_reducible first | exact HB.out | apply below_alloc | apply pw_below_drewN | apply below_drew1) | exact HB.out))); rintro e w20 ⟨v284, rfl, ho0, hb⟩; refine ⟨_, rfl, ?_⟩; have n0_ := Aside0.mk (Kd.R_elder' (by (with_reducible repeat (first | apply Kd.R_alloc | apply Kd.R_drewN | apply Kd.R_drew)); exact HO276.out) (Kd.R_base ho0) hb); have n1_ := Aside0.mk (Kd.R_elder' (by (with_reducible repeat (first | apply Kd.R_alloc | apply Kd.R_drewN | apply Kd.R_drew)); exact HO279.out) (Kd.R_base ho0) hb); have n2_ := Aside0.mk (Kd.R_elder' (by (with_reducible repeat (first | apply Kd.R_alloc | apply Kd.R_drewN | apply Kd.R_drew)); exact HO282.out) (Kd.R_base ho0) hb); have n3_ := Aside0.mk (Kd.R_lower (Kd.R_new' (Kd.R_new' (Kd.R_new' ho0 (Kd.R_lt (by (with_reducible repeat (first | apply Kd.R_alloc | apply Kd.R_drewN | apply Kd.R_drew)); exact HO276.out))) (Kd.R_lt (by (with_reducible repeat (first | apply Kd.R_alloc | apply Kd.R_drewN | apply Kd.R_drew)); exact HO279.out))) (Kd.R_lt (by (with_reducible repeat (first | apply Kd.R_alloc | apply Kd.R_drewN | apply Kd.R_drew)); exact HO282.out))) (below_size (by repeat (first | (with_reducible first | exact HB.out | apply below_alloc | apply pw_below_drewN | apply below_drew1) | exact HB.out)))); have n4_ := Aside0.mk (below_step (by repeat (first | (with_reducible first | exact HB.out | apply below_alloc | apply pw_below_drewN | apply below_drew1) | exact HB.out)) hb); clear HO276; clear HO279; clear HO282; clear HB; have HO276 := n0_; have HO279 := n1_; have HO282 := n2_; have HO285 := n3_; have HB := n4_; clear n0_ n1_ n2_ n3_ n4_; (try clear hb); (try clear ho0); obtain ⟨Ao21, co21, eo21⟩ := Kd.R_slice HO285.out; subst eo21; obtain ⟨Ao22, co22, eo22⟩ := Kd.R_slice HO279.out; subst eo22) | ((with_reducible refine gate_callee (f := 63) rfl ?_); refine goesL_ (some 25) rfl rfl Tryz.func63 (by kernel_rfl) rfl #[.slice Ao21 t283.length co21, .slice Ao22 t277.length co22] rfl (by (try simp only [List.map_toArray, List.map_cons, List.map_nil]); first | done | rfl | (simp only [List.length_drop, List.length_take]; rfl)) ?_; (with_reducible refine (laws_eqStringS.calls k _ _ t283 _ _ t277 true _ ?side1 ?side2 ?side3 ?side4 A8.out).mono ?_); (case side1 => repeat (first | exact (Kd.R_reads' HO285.out).2.2 | (with_reducible refine Kd.C_alloc ?_ _) | (with_reducible refine Kd.C_drewN ?_ _) | (with_reducible refine Kd.C_drew ?_))); (case side2 => exact (Kd.R_reads' HO285.out).2.1); (case side3 => repeat (first | exact (Kd.R_reads' HO279.out).2.2 | (with_reducible refine Kd.C_alloc ?_ _) | (with_reducible refine Kd.C_drewN ?_ _) | (with_reducible refine Kd.C_drew ?_))); (case side4 => exact (Kd.R_reads' HO279.out).2.1); rintro e w' ⟨rfl, ⟨nd, rfl⟩⟩; refine ⟨_, rfl, ?_⟩) | ((with_reducible refine gate_callee (f := 70) rfl ?_); refine goesL_ (some 29) rfl rfl Tryz.func70 (by kernel_rfl) rfl #[.slice A0 l0.length c0] rfl (by (try simp only [List.map_toArray, List.map_cons, List.map_nil]); first | done | rfl | (simp only [List.length_drop, List.length_take]; rfl)) ?_; (with_reducible refine (laws_toStringS.calls k _ _ l0 t287 _ ?side1 ?side2 A10.out).mono ?_); (case side1 => repeat (first | exact (Kd.C_below HR0.out (by repeat (first | (with_reducible first | exact HB.out | apply below_alloc | apply pw_below_drewN | apply below_drew1) | exact HB.out))) | (with_reducible refine Kd.C_alloc ?_ _) | (with_reducible refine Kd.C_drewN ?_ _) | (with_reducible refine Kd.C_drew ?_))); (case side2 => exact HC0.out); rintro e w23 ⟨v288, rfl, ho0, hb⟩; refine ⟨_, rfl, ?_⟩; have n0_ := Aside0.mk (Kd.R_elder' (by (with_reducible repeat (first | apply Kd.R_alloc | apply Kd.R_drewN | apply Kd.R_drew)); exact HO276.out) (Kd.R_base ho0) hb); have n1_ := Aside0.mk (Kd.R_elder' (by (with_reducible repeat (first | apply Kd.R_alloc | apply Kd.R_drewN | apply Kd.R_drew)); exact HO279.out) (Kd.R_base ho0) hb); have n2_ := Aside0.mk (Kd.R_elder' (by (with_reducible repeat (first | apply Kd.R_alloc | apply Kd.R_drewN | apply Kd.R_drew)); exact HO282.out) (Kd.R_base ho0) hb); have n3_ := Aside0.mk (Kd.R_elder' (by (with_reducible repeat (first | apply Kd.R_alloc | apply Kd.R_drewN | apply Kd.R_drew)); exact HO285.out) (Kd.R_base ho0) hb); have n4_ := Aside0.mk (Kd.R_lower (Kd.R_new' (Kd.R_new' (Kd.R_new' (Kd.R_new' ho0 (Kd.R_lt (by (with_reducible repeat (first | apply Kd.R_alloc | apply Kd.R_drewN | apply Kd.R_drew)); exact HO276.out))) (Kd.R_lt (by (with_reducible repeat (first | apply Kd.R_alloc | apply Kd.R_drewN | apply Kd.R_drew)); exact HO279.out))) (Kd.R_lt (by (with_reducible repeat (first | apply Kd.R_alloc | apply Kd.R_drewN | apply Kd.R_drew)); exact HO282.out))) (Kd.R_lt (by (with_reducible repeat (first | apply Kd.R_alloc | apply Kd.R_drewN | apply Kd.R_drew)); exact HO285.out))) (below_size (by repeat (first | (with_reducible first | exact HB.out | apply below_alloc | apply pw_below_drewN | apply below_drew1) | exact HB.out)))); have n5_ := Aside0.mk (below_step (by repeat (first | (with_reducible first | exact HB.out | apply below_alloc | apply pw_below_drewN | apply below_drew1) | exact HB.out)) hb); clear HO276; clear HO279; clear HO282; clear HO285; clear HB; have HO276 := n0_; have HO279 := n1_; have HO282 := n2_; have HO285 := n3_; have HO289 := n4_; have HB := n5_; clear n0_ n1_ n2_ n3_ n4_ n5_; (try clear hb); (try clear ho0); obtain ⟨Ao24, co24, eo24⟩ := Kd.R_slice HO289.out; subst eo24) | ((with_reducible refine gate_callee (f := 63) rfl ?_); refine goesL_ (some 30) rfl rfl Tryz.func63 (by kernel_rfl) rfl #[.slice Ao19 t280.length co19, .slice Ao24 t287.length co24] rfl (by (try simp only [List.map_toArray, List.map_cons, List.map_nil]); first | done | rfl | (simp only [List.length_drop, List.length_take]; rfl)) ?_; (with_reducible refine (laws_eqStringS.calls k _ _ t280 _ _ t287 true _ ?side1 ?side2 ?side3 ?side4 A11.out).mono ?_); (case side1 => repeat (first | exact (Kd.R_reads' HO282.out).2.2 | (with_reducible refine Kd.C_alloc ?_ _) | (with_reducible refine Kd.C_drewN ?_ _) | (with_reducible refine Kd.C_drew ?_))); (case side2 => exact (Kd.R_reads' HO282.out).2.1); (case side3 => repeat (first | exact (Kd.R_reads' HO289.out).2.2 | (with_reducible refine Kd.C_alloc ?_ _) | (with_reducible refine Kd.C_drewN ?_ _) | (with_reducible refine Kd.C_drew ?_))); (case side4 => exact (Kd.R_reads' HO289.out).2.1); rintro e w' ⟨rfl, ⟨nd, rfl⟩⟩; refine ⟨_, rfl, ?_⟩) | ((with_reducible refine gate_callee (f := 66) rfl ?_); refine goesL_ (some 34) rfl rfl Tryz.func66 (by kernel_rfl) rfl #[.slice Ao19 t280.length co19, .int .i64 1] rfl (by (try simp only [List.map_toArray, List.map_cons, List.map_nil]); first | done | rfl | (simp only [List.length_drop, List.length_take]; rfl)) ?_; (with_reducible refine (laws_markStringS.calls k (fun k_ => some k_ = (.slice Ao19 t280.length co19 : Value).ownBlock) (.slice Ao19 t280.length co19) t280 1 t291 t292 w _ ?side1 ?side2 A13.out).mono ?_); (case side1 => repeat (first | (with_reducible first | exact HB.out | apply below_alloc | apply pw_below_drewN | apply below_drew1) | exact HB.out)); (case side2 => exact Kd.R_tight rfl HO282.out); rintro e w25 ⟨rfl, hy0, hb, hkp⟩; refine ⟨_, rfl, ?_⟩; have n0_ := Aside0.mk (Kd.R_mono (ok' := fun k_ => some k_ ≠ (.slice Ao22 t277.length co22 : Value).ownBlock ∧ some k_ ≠ (.slice Ao19 t280.length co19 : Value).ownBlock ∧ some k_ ≠ (.slice Ao21 t283.length co21 : Value).ownBlock ∧ some k_ ≠ (.slice Ao24 t287.length co24 : Value).ownBlock) (Kd.R_keptB (HO276.out) hkp (fun k_ hk_ hs_ => (hk_.1.1.2) hs_)) (fun k_ hk_ => ⟨hk_.1.1.1.1.2, hk_.1.1.1.2, hk_.1.1.2, hk_.1.2⟩)); have n1_ := Aside0.mk (Kd.R_mono (ok' := fun k_ => some k_ ≠ (.slice Ao16 t274.length co16 : Value).ownBlock ∧ some k_ ≠ (.slice Ao19 t280.length co19 : Value).ownBlock ∧ some k_ ≠ (.slice Ao21 t283.length co21 : Value).ownBlock ∧ some k_ ≠ (.slice Ao24 t287.length co24 : Value).ownBlock) (Kd.R_keptB (HO279.out) hkp (fun k_ hk_ hs_ => (hk_.1.1.2) hs_)) (fun k_ hk_ => ⟨hk_.1.1.1.1.2, hk_.1.1.1.2, hk_.1.1.2, hk_.1.2⟩)); have n2_ := Aside0.mk (Kd.R_reok rfl hy0 (fun k_ e_ => HO282.out.1 k_ e_)); have n3_ := Aside0.mk (Kd.R_mono (ok' := fun k_ => some k_ ≠ (.slice Ao16 t274.length co16 : Value).ownBlock ∧ some k_ ≠ (.slice Ao22 t277.length co22 : Value).ownBlock ∧ some k_ ≠ (.slice Ao19 t280.length co19 : Value).ownBlock ∧ some k_ ≠ (.slice Ao24 t287.length co24 : Value).ownBlock) (Kd.R_keptB (HO285.out) hkp (fun k_ hk_ hs_ => (hk_.1.2) hs_)) (fun k_ hk_ => ⟨hk_.1.1.1.1.2, hk_.1.1.1.2, hk_.1.1.2, hk_.1.2⟩)); have n4_ := Aside0.mk (Kd.R_mono (ok' := fun k_ => some k_ ≠ (.slice Ao16 t274.length co16 : Value).ownBlock ∧ some k_ ≠ (.slice Ao22 t277.length co22 : Value).ownBlock ∧ some k_ ≠ (.slice Ao19 t280.length co19 : Value).ownBlock ∧ some k_ ≠ (.slice Ao21 t283.length co21 : Value).ownBlock) (Kd.R_keptB (HO289.out) hkp (fun k_ hk_ hs_ => (hk_.1.2) hs_)) (fun k_ hk_ => ⟨hk_.1.1.1.1.2, hk_.1.1.1.2, hk_.1.1.2, hk_.1.2⟩)); have n5_ := Aside0.mk (hb); clear HO276; clear HO279; clear HO282; clear HO285; clear HO289; clear HB; have HO276 := n0_; have HO279 := n1_; have HO282 := n2_; have HO285 := n3_; have HO289 := n4_; have HB := n5_; clear n0_ n1_ n2_ n3_ n4_ n5_; (try clear hb); (try clear hkp); (try clear hy0)))
    (try simp only [Act.put, List.setIfInBounds_toArray, List.set_cons_zero, List.set_cons_succ])
    go_cut [42] (fun v42 wc => ∃ (kq : Nat) (x42_13 : Bool), v42 = .bool x42_13 ∧ Aside0 (laws_FnExactSortVersions.j0 kq l0 t277 t283 x42_13 = some r) ∧ Aside0 (kq ≤ k) ∧ Aside0 (Kd.R Kd.string 9 wc w.heap.size (fun k_ => some k_ ≠ ((.slice Ao21 t283.length co21) : Value).ownBlock) (.slice Ao22 t277.length co22) t277) ∧ Aside0 (Kd.R Kd.string 9 wc w.heap.size (fun k_ => some k_ ≠ ((.slice Ao22 t277.length co22) : Value).ownBlock) (.slice Ao21 t283.length co21) t283) ∧ Aside0 (Below w.heap.size w wc))
    case first =>
     have H := HC14.out
     clear HC14
     by_cases c26 : t291 < 0
     ·rw [if_pos c26] at H
      have c26b0 : decide (t291 < 0) = true := decide_eq_true c26
      clear c26
      (first | rw [c26b0] | (simp only [i64_w, i32_w]; rw [c26b0]) | skip)
      have H' := Aside0.mk H
      clear H
      go_wp2
      go_meet
      case rel => exact ⟨_, (true), (by first | rfl | (simp; done) | (simp [*]; done) | (simp; exact isEmpty_ne _)), H', ⟨by first | omega | exact Nat.le_refl _⟩, ⟨by (with_reducible repeat (first | apply Kd.R_alloc | apply Kd.R_drewN | apply Kd.R_drew)); exact Kd.R_mono HO279.out (fun _ hk => hk.2.2.1)⟩, ⟨by (with_reducible repeat (first | apply Kd.R_alloc | apply Kd.R_drewN | apply Kd.R_drew)); exact Kd.R_mono HO285.out (fun _ hk => hk.2.1)⟩, ⟨by repeat (first | (with_reducible first | exact HB.out | apply below_alloc | apply pw_below_drewN | apply below_drew1) | exact HB.out)⟩⟩
     ·rw [if_neg c26] at H
      have c26b0 : decide (t291 < 0) = false := decide_eq_false c26
      clear c26
      (first | rw [c26b0] | (simp only [i64_w, i32_w]; rw [c26b0]) | skip)
      replace H := Option.bind_eq_some_iff.mp H
      obtain ⟨t293, A270, H⟩ := H
      replace H : (laws_FnExactSortVersions.j0 k l0 t277 t283 (!t293)) = some r := H
      have A27 := Aside0.mk A270
      clear A270
      have H' := Aside0.mk H
      clear H
      go_wp2_with (first | (go_at_call 63; (with_reducible refine (laws_eqStringS.calls k _ _ t283 _ _ t277 t293 _ ?side1 ?side2 ?side3 ?side4 A27.out).mono ?_); (case side1 => repeat (first | exact (Kd.R_reads' HO285.out).2.2 | (with_reducible refine Kd.C_alloc ?_ _) | (with_reducible refine Kd.C_drewN ?_ _) | (with_reducible refine Kd.C_drew ?_))); (case side2 => exact (Kd.R_reads' HO285.out).2.1); (case side3 => repeat (first | exact (Kd.R_reads' HO279.out).2.2 | (with_reducible refine Kd.C_alloc ?_ _) | (with_reducible refine Kd.C_drewN ?_ _) | (with_reducible refine Kd.C_drew ?_))); (case side4 => exact (Kd.R_reads' HO279.out).2.1); rintro e w' ⟨rfl, ⟨nd, rfl⟩⟩))
      go_meet
      case rel => exact ⟨_, (!t293), (by first | rfl | (simp; done) | (simp [*]; done) | (simp; exact isEmpty_ne _)), H', ⟨by first | omega | exact Nat.le_refl _⟩, ⟨by (with_reducible repeat (first | apply Kd.R_alloc | apply Kd.R_drewN | apply Kd.R_drew)); exact Kd.R_mono HO279.out (fun _ hk => hk.2.2.1)⟩, ⟨by (with_reducible repeat (first | apply Kd.R_alloc | apply Kd.R_drewN | apply Kd.R_drew)); exact Kd.R_mono HO285.out (fun _ hk => hk.2.1)⟩, ⟨by repeat (first | (with_reducible first | exact HB.out | apply below_alloc | apply pw_below_drewN | apply below_drew1) | exact HB.out)⟩⟩
    case rest =>
     clear HC14
     try clear c1
     try clear c2
     try clear p2
     try clear c3
     try clear c3b0
     try clear c6
     try clear c7
     try clear c9
     try clear c12
     try clear c26
     try clear c26b0
     obtain ⟨kq, x42_13, rfl, HA, HJ13, HO_4, HO_6, HB⟩ := hcut
     cases kq with
     | zero => exact absurd HA.out (by simp [laws_FnExactSortVersions.j0])
     | succ kj13 =>
      have H := HA.out
      clear HA
      simp only [laws_FnExactSortVersions.j0] at H
      by_cases c28 : x42_13 = true
      ·subst c28
       have H1 : (some false) = some r := by rw [if_pos rfl] at H; exact H
       clear H
       have H := H1
       clear H1
       exact absurd ((Option.some.inj H).trans hr_) (by decide)
      ·replace c28 := Bool.eq_false_iff.mpr c28
       subst c28
       have H1 : ((laws_markStringS.f kj13 t283 1).bind fun bt294 => ((laws_heldStringS.f kj13 bt294.2 1).bind fun t296 => (if t296 < 0 then (some false) else (if t296 = bt294.1 then ((laws_toStringS.f kj13 l0).bind fun t297 => ((impl_SortVersions.f t297).bind fun t300 => ((laws_eqStringS.f kj13 t300 t277).bind fun t303 => (if t303 = true then ((laws_heldStringS.f kj13 bt294.2 1).bind fun t304 => (if t304 < 0 then (some false) else (if t304 = bt294.1 then (some true) else (some false)))) else (some false))))) else (some false))))) = some r := by rw [if_neg (show ¬ (false = true) by decide)] at H; exact H
       clear H
       have H := H1
       clear H1
       replace H := Option.bind_eq_some_iff.mp H
       obtain ⟨⟨t294, t295⟩, A290, H⟩ := H
       replace H : ((laws_heldStringS.f kj13 t295 1).bind fun t296 => (if t296 < 0 then (some false) else (if t296 = t294 then ((laws_toStringS.f kj13 l0).bind fun t297 => ((impl_SortVersions.f t297).bind fun t300 => ((laws_eqStringS.f kj13 t300 t277).bind fun t303 => (if t303 = true then ((laws_heldStringS.f kj13 t295 1).bind fun t304 => (if t304 < 0 then (some false) else (if t304 = t294 then (some true) else (some false)))) else (some false))))) else (some false)))) = some r := H
       have A29 := Aside0.mk A290
       clear A290
       replace H := Option.bind_eq_some_iff.mp H
       obtain ⟨t296, A300, H⟩ := H
       replace H : (if t296 < 0 then (some false) else (if t296 = t294 then ((laws_toStringS.f kj13 l0).bind fun t297 => ((impl_SortVersions.f t297).bind fun t300 => ((laws_eqStringS.f kj13 t300 t277).bind fun t303 => (if t303 = true then ((laws_heldStringS.f kj13 t295 1).bind fun t304 => (if t304 < 0 then (some false) else (if t304 = t294 then (some true) else (some false)))) else (some false))))) else (some false))) = some r := H
       have A30 := Aside0.mk A300
       clear A300
       by_cases c31 : t296 < 0
       ·rw [if_pos c31] at H
        have c31b0 : decide (t296 < 0) = true := decide_eq_true c31
        clear c31
        exact absurd ((Option.some.inj H).trans hr_) (by decide)
       ·rw [if_neg c31] at H
        have c31b0 : decide (t296 < 0) = false := decide_eq_false c31
        clear c31
        by_cases c32 : t296 = t294
        ·rw [if_pos c32] at H
         have c32b0 : (t296 == t294) = true := beq_iff_eq.mpr c32
         have c32b1 : (t296 != t294) = false := bne_eq_false_iff_eq.mpr c32
         clear c32
         replace H := Option.bind_eq_some_iff.mp H
         obtain ⟨t297, A330, H⟩ := H
         replace H : ((impl_SortVersions.f t297).bind fun t300 => ((laws_eqStringS.f kj13 t300 t277).bind fun t303 => (if t303 = true then ((laws_heldStringS.f kj13 t295 1).bind fun t304 => (if t304 < 0 then (some false) else (if t304 = t294 then (some true) else (some false)))) else (some false)))) = some r := H
         have A33 := Aside0.mk A330
         clear A330
         replace H := Option.bind_eq_some_iff.mp H
         obtain ⟨t300, A340, H⟩ := H
         replace H : ((laws_eqStringS.f kj13 t300 t277).bind fun t303 => (if t303 = true then ((laws_heldStringS.f kj13 t295 1).bind fun t304 => (if t304 < 0 then (some false) else (if t304 = t294 then (some true) else (some false)))) else (some false))) = some r := H
         have A34 := Aside0.mk A340
         clear A340
         replace H := Option.bind_eq_some_iff.mp H
         obtain ⟨t303, A350, H⟩ := H
         replace H : (if t303 = true then ((laws_heldStringS.f kj13 t295 1).bind fun t304 => (if t304 < 0 then (some false) else (if t304 = t294 then (some true) else (some false)))) else (some false)) = some r := H
         have A35 := Aside0.mk A350
         clear A350
         by_cases c36 : t303 = true
         ·subst c36
          have H1 : ((laws_heldStringS.f kj13 t295 1).bind fun t304 => (if t304 < 0 then (some false) else (if t304 = t294 then (some true) else (some false)))) = some r := by rw [if_pos rfl] at H; exact H
          clear H
          have H := H1
          clear H1
          replace H := Option.bind_eq_some_iff.mp H
          obtain ⟨t304, A370, H⟩ := H
          replace H : (if t304 < 0 then (some false) else (if t304 = t294 then (some true) else (some false))) = some r := H
          have A37 := Aside0.mk A370
          clear A370
          by_cases c38 : t304 < 0
          ·rw [if_pos c38] at H
           have c38b0 : decide (t304 < 0) = true := decide_eq_true c38
           clear c38
           exact absurd ((Option.some.inj H).trans hr_) (by decide)
          ·rw [if_neg c38] at H
           have c38b0 : decide (t304 < 0) = false := decide_eq_false c38
           clear c38
           by_cases c39 : t304 = t294
           ·rw [if_pos c39] at H
            have c39b0 : (t304 == t294) = true := beq_iff_eq.mpr c39
            have c39b1 : (t304 != t294) = false := bne_eq_false_iff_eq.mpr c39
            clear c39
            obtain rfl := Option.some.inj H
            go_wp2_with (first | ((with_reducible refine gate_callee (f := 66) rfl ?_); refine goesL_ (some 45) rfl rfl Tryz.func66 (by kernel_rfl) rfl #[.slice Ao21 t283.length co21, .int .i64 1] rfl (by (try simp only [List.map_toArray, List.map_cons, List.map_nil]); first | done | rfl | (simp only [List.length_drop, List.length_take]; rfl)) ?_; (with_reducible refine (laws_markStringS.calls kj13 (fun k_ => some k_ = (.slice Ao21 t283.length co21 : Value).ownBlock) (.slice Ao21 t283.length co21) t283 1 t294 t295 w _ ?side1 ?side2 A29.out).mono ?_); (case side1 => repeat (first | (with_reducible first | exact HB.out | apply below_alloc | apply pw_below_drewN | apply below_drew1) | exact HB.out)); (case side2 => exact Kd.R_tight rfl HO_6.out); rintro e w40 ⟨rfl, hy0, hb, hkp⟩; refine ⟨_, rfl, ?_⟩; have n0_ := Aside0.mk (Kd.R_mono (ok' := fun k_ => some k_ ≠ (.slice Ao21 t283.length co21 : Value).ownBlock) (Kd.R_keptB (HO_4.out) hkp (fun k_ hk_ hs_ => (hk_) hs_)) (fun k_ hk_ => hk_.1)); have n1_ := Aside0.mk (Kd.R_reok rfl hy0 (fun k_ e_ => HO_6.out.1 k_ e_)); have n2_ := Aside0.mk (hb); clear HO_4; clear HO_6; clear HB; have HO_4 := n0_; have HO_6 := n1_; have HB := n2_; clear n0_ n1_ n2_; (try clear hb); (try clear hkp); (try clear hy0)) | ((with_reducible refine gate_callee (f := 67) rfl ?_); refine goesL_ (some 48) rfl rfl Tryz.func67 (by kernel_rfl) rfl #[.slice Ao21 t295.length co21, .int .i64 1] rfl (by (try simp only [List.map_toArray, List.map_cons, List.map_nil]); first | done | (rw [show t295.length = t283.length from (Kd.R_reads' HO_6.out).1.symm] <;> rfl) | rfl | (simp only [List.length_drop, List.length_take]; rfl)) ?_; (with_reducible refine (laws_heldStringS.calls kj13 _ _ t295 1 t296 _ ?side1 ?side2 A30.out).mono ?_); (case side1 => repeat (first | exact (Kd.R_reads' HO_6.out).2.2 | (with_reducible refine Kd.C_alloc ?_ _) | (with_reducible refine Kd.C_drewN ?_ _) | (with_reducible refine Kd.C_drew ?_))); (case side2 => rw [show t295.length = t283.length from (Kd.R_reads' HO_6.out).1.symm]; exact (Kd.R_reads' HO_6.out).2.1); rintro e w41 ⟨rfl, hb⟩; refine ⟨_, rfl, ?_⟩; have n0_ := Aside0.mk (Kd.R_below (by (with_reducible repeat (first | apply Kd.R_alloc | apply Kd.R_drewN | apply Kd.R_drew)); exact HO_4.out) hb); have n1_ := Aside0.mk (Kd.R_below (by (with_reducible repeat (first | apply Kd.R_alloc | apply Kd.R_drewN | apply Kd.R_drew)); exact HO_6.out) hb); have n2_ := Aside0.mk (below_step (by repeat (first | (with_reducible first | exact HB.out | apply below_alloc | apply pw_below_drewN | apply below_drew1) | exact HB.out)) hb); clear HO_4; clear HO_6; clear HB; have HO_4 := n0_; have HO_6 := n1_; have HB := n2_; clear n0_ n1_ n2_; (try clear hb)) | ((with_reducible refine gate_callee (f := 70) rfl ?_); refine goesL_ (some 55) rfl rfl Tryz.func70 (by kernel_rfl) rfl #[.slice A0 l0.length c0] rfl (by (try simp only [List.map_toArray, List.map_cons, List.map_nil]); first | done | rfl | (simp only [List.length_drop, List.length_take]; rfl)) ?_; (with_reducible refine (laws_toStringS.calls kj13 _ _ l0 t297 _ ?side1 ?side2 A33.out).mono ?_); (case side1 => repeat (first | exact (Kd.C_below HR0.out HB.out) | (with_reducible refine Kd.C_alloc ?_ _) | (with_reducible refine Kd.C_drewN ?_ _) | (with_reducible refine Kd.C_drew ?_))); (case side2 => exact HC0.out); rintro e w42 ⟨v298, rfl, ho0, hb⟩; refine ⟨_, rfl, ?_⟩; have n0_ := Aside0.mk (Kd.R_elder' (by (with_reducible repeat (first | apply Kd.R_alloc | apply Kd.R_drewN | apply Kd.R_drew)); exact HO_4.out) (Kd.R_base ho0) hb); have n1_ := Aside0.mk (Kd.R_elder' (by (with_reducible repeat (first | apply Kd.R_alloc | apply Kd.R_drewN | apply Kd.R_drew)); exact HO_6.out) (Kd.R_base ho0) hb); have n2_ := Aside0.mk (Kd.R_lower (Kd.R_new' (Kd.R_new' ho0 (Kd.R_lt (by (with_reducible repeat (first | apply Kd.R_alloc | apply Kd.R_drewN | apply Kd.R_drew)); exact HO_4.out))) (Kd.R_lt (by (with_reducible repeat (first | apply Kd.R_alloc | apply Kd.R_drewN | apply Kd.R_drew)); exact HO_6.out))) (below_size (by repeat (first | (with_reducible first | exact HB.out | apply below_alloc | apply pw_below_drewN | apply below_drew1) | exact HB.out)))); have n3_ := Aside0.mk (below_step (by repeat (first | (with_reducible first | exact HB.out | apply below_alloc | apply pw_below_drewN | apply below_drew1) | exact HB.out)) hb); clear HO_4; clear HO_6; clear HB; have HO_4 := n0_; have HO_6 := n1_; have HO299 := n2_; have HB := n3_; clear n0_ n1_ n2_ n3_; (try clear hb); (try clear ho0); obtain ⟨Ao43, co43, eo43⟩ := Kd.R_slice HO299.out; subst eo43) | ((with_reducible refine gate_callee (f := 71) rfl ?_); refine goesL_ (some 56) rfl rfl Tryz.func71 (by kernel_rfl) rfl #[.slice Ao43 t297.length co43] rfl (by (try simp only [List.map_toArray, List.map_cons, List.map_nil]); first | done | rfl | (simp only [List.length_drop, List.length_take]; rfl)) ?_; (with_reducible refine (impl_SortVersions.calls _ _ t297 t300 _ ?side1 ?side2 ?side3 ?side4 ?side5 A34.out).mono ?_); (case side1 => repeat (first | exact (Kd.R_reads' HO299.out).2.2 | (with_reducible refine Kd.C_alloc ?_ _) | (with_reducible refine Kd.C_drewN ?_ _) | (with_reducible refine Kd.C_drew ?_))); (case side2 => exact (Kd.R_reads' HO299.out).2.1); (case side3 => exact Glob.below HGE.out (by repeat (first | (with_reducible first | exact HB.out | apply below_alloc | apply pw_below_drewN | apply below_drew1) | exact HB.out))); (case side4 => exact Glob.below HGM.out (by repeat (first | (with_reducible first | exact HB.out | apply below_alloc | apply pw_below_drewN | apply below_drew1) | exact HB.out))); (case side5 => exact Glob.below HGT.out (by repeat (first | (with_reducible first | exact HB.out | apply below_alloc | apply pw_below_drewN | apply below_drew1) | exact HB.out))); rintro e w44 ⟨v301, rfl, ho0, hb⟩; refine ⟨_, rfl, ?_⟩; have n0_ := Aside0.mk (Kd.R_elder' (by (with_reducible repeat (first | apply Kd.R_alloc | apply Kd.R_drewN | apply Kd.R_drew)); exact HO_4.out) (Kd.R_base ho0) hb); have n1_ := Aside0.mk (Kd.R_elder' (by (with_reducible repeat (first | apply Kd.R_alloc | apply Kd.R_drewN | apply Kd.R_drew)); exact HO_6.out) (Kd.R_base ho0) hb); have n2_ := Aside0.mk (Kd.R_elder' (by (with_reducible repeat (first | apply Kd.R_alloc | apply Kd.R_drewN | apply Kd.R_drew)); exact HO299.out) (Kd.R_base ho0) hb); have n3_ := Aside0.mk (Kd.R_lower (Kd.R_new' (Kd.R_new' (Kd.R_new' ho0 (Kd.R_lt (by (with_reducible repeat (first | apply Kd.R_alloc | apply Kd.R_drewN | apply Kd.R_drew)); exact HO_4.out))) (Kd.R_lt (by (with_reducible repeat (first | apply Kd.R_alloc | apply Kd.R_drewN | apply Kd.R_drew)); exact HO_6.out))) (Kd.R_lt (by (with_reducible repeat (first | apply Kd.R_alloc | apply Kd.R_drewN | apply Kd.R_drew)); exact HO299.out))) (below_size (by repeat (first | (with_reducible first | exact HB.out | apply below_alloc | apply pw_below_drewN | apply below_drew1) | exact HB.out)))); have n4_ := Aside0.mk (below_step (by repeat (first | (with_reducible first | exact HB.out | apply below_alloc | apply pw_below_drewN | apply below_drew1) | exact HB.out)) hb); clear HO_4; clear HO_6; clear HO299; clear HB; have HO_4 := n0_; have HO_6 := n1_; have HO299 := n2_; have HO302 := n3_; have HB := n4_; clear n0_ n1_ n2_ n3_ n4_; (try clear hb); (try clear ho0); obtain ⟨Ao45, co45, eo45⟩ := Kd.R_slice HO302.out; subst eo45) | ((with_reducible refine gate_callee (f := 63) rfl ?_); refine goesL_ (some 59) rfl rfl Tryz.func63 (by kernel_rfl) rfl #[.slice Ao45 t300.length co45, .slice Ao22 t277.length co22] rfl (by (try simp only [List.map_toArray, List.map_cons, List.map_nil]); first | done | rfl | (simp only [List.length_drop, List.length_take]; rfl)) ?_; (with_reducible refine (laws_eqStringS.calls kj13 _ _ t300 _ _ t277 true _ ?side1 ?side2 ?side3 ?side4 A35.out).mono ?_); (case side1 => repeat (first | exact (Kd.R_reads' HO302.out).2.2 | (with_reducible refine Kd.C_alloc ?_ _) | (with_reducible refine Kd.C_drewN ?_ _) | (with_reducible refine Kd.C_drew ?_))); (case side2 => exact (Kd.R_reads' HO302.out).2.1); (case side3 => repeat (first | exact (Kd.R_reads' HO_4.out).2.2 | (with_reducible refine Kd.C_alloc ?_ _) | (with_reducible refine Kd.C_drewN ?_ _) | (with_reducible refine Kd.C_drew ?_))); (case side4 => exact (Kd.R_reads' HO_4.out).2.1); rintro e w' ⟨rfl, ⟨nd, rfl⟩⟩; refine ⟨_, rfl, ?_⟩) | ((with_reducible refine gate_callee (f := 67) rfl ?_); refine goesL_ (some 63) rfl rfl Tryz.func67 (by kernel_rfl) rfl #[.slice Ao21 t295.length co21, .int .i64 1] rfl (by (try simp only [List.map_toArray, List.map_cons, List.map_nil]); first | done | (rw [show t295.length = t283.length from (Kd.R_reads' HO_6.out).1.symm] <;> rfl) | rfl | (simp only [List.length_drop, List.length_take]; rfl)) ?_; (with_reducible refine (laws_heldStringS.calls kj13 _ _ t295 1 t304 _ ?side1 ?side2 A37.out).mono ?_); (case side1 => repeat (first | exact (Kd.R_reads' HO_6.out).2.2 | (with_reducible refine Kd.C_alloc ?_ _) | (with_reducible refine Kd.C_drewN ?_ _) | (with_reducible refine Kd.C_drew ?_))); (case side2 => rw [show t295.length = t283.length from (Kd.R_reads' HO_6.out).1.symm]; exact (Kd.R_reads' HO_6.out).2.1); rintro e w46 ⟨rfl, hb⟩; refine ⟨_, rfl, ?_⟩; have n0_ := Aside0.mk (Kd.R_below (by (with_reducible repeat (first | apply Kd.R_alloc | apply Kd.R_drewN | apply Kd.R_drew)); exact HO_4.out) hb); have n1_ := Aside0.mk (Kd.R_below (by (with_reducible repeat (first | apply Kd.R_alloc | apply Kd.R_drewN | apply Kd.R_drew)); exact HO_6.out) hb); have n2_ := Aside0.mk (Kd.R_below (by (with_reducible repeat (first | apply Kd.R_alloc | apply Kd.R_drewN | apply Kd.R_drew)); exact HO299.out) hb); have n3_ := Aside0.mk (Kd.R_below (by (with_reducible repeat (first | apply Kd.R_alloc | apply Kd.R_drewN | apply Kd.R_drew)); exact HO302.out) hb); have n4_ := Aside0.mk (below_step (by repeat (first | (with_reducible first | exact HB.out | apply below_alloc | apply pw_below_drewN | apply below_drew1) | exact HB.out)) hb); clear HO_4; clear HO_6; clear HO299; clear HO302; clear HB; have HO_4 := n0_; have HO_6 := n1_; have HO299 := n2_; have HO302 := n3_; have HB := n4_; clear n0_ n1_ n2_ n3_ n4_; (try clear hb)))
            go_ret
            exact ⟨by first | rfl | (simp [errW_none, errW_some] <;> rfl) | (simp [*, errW_none, errW_some] <;> rfl), by repeat (first | (with_reducible first | exact HB.out | apply below_alloc | apply pw_below_drewN | apply below_drew1) | exact HB.out)⟩
           ·rw [if_neg c39] at H
            have c39b0 : (t304 == t294) = false := beq_eq_false_iff_ne.mpr c39
            have c39b1 : (t304 != t294) = true := bne_iff_ne.mpr c39
            exact absurd ((Option.some.inj H).trans hr_) (by decide)
         ·replace c36 := Bool.eq_false_iff.mpr c36
          subst c36
          have H1 : (some false) = some r := by rw [if_neg (show ¬ (false = true) by decide)] at H; exact H
          clear H
          have H := H1
          clear H1
          exact absurd ((Option.some.inj H).trans hr_) (by decide)
        ·rw [if_neg c32] at H
         have c32b0 : (t296 == t294) = false := beq_eq_false_iff_ne.mpr c32
         have c32b1 : (t296 != t294) = true := bne_iff_ne.mpr c32
         exact absurd ((Option.some.inj H).trans hr_) (by decide)
   ·replace c12 := Bool.eq_false_iff.mpr c12
    subst c12
    have H1 : (some false) = some r := by rw [if_neg (show ¬ (false = true) by decide)] at H; exact H
    clear H
    have H := H1
    clear H1
    exact absurd ((Option.some.inj H).trans hr_) (by decide)
  ·replace c9 := Bool.eq_false_iff.mpr c9
   subst c9
   have H1 : (some false) = some r := by rw [if_neg (show ¬ (false = true) by decide)] at H; exact H
   clear H
   have H := H1
   clear H1
   exact absurd ((Option.some.inj H).trans hr_) (by decide)
end Go.Proofs.YtcfeihimmboghaaGreatDoor.G

end
section
namespace Go.Proofs.YtcfeihimmboghaaGreatDoor.U
open Go Go.RowKit Go.Proofs.YtcfeihimmboghaaGreatDoorW.PrintWords Go.Proofs.YtcfeihimmboghaaGreatDoor.G
set_option linter.unusedVariables false
set_option linter.unusedSimpArgs false
theorem ins_take (s : B) : ∀ (j : Nat) (out : List B), (∀ w ∈ out.take j, cmpS w s < 0) → ins cmpS s out = out.take j ++ ins cmpS s (out.drop j)
  | 0, out, _ => by simp
  | j + 1, [], _ => by simp
  | j + 1, w :: r, h => by
    rw [ins, if_pos (h w (by simp)), ins_take s j r fun x hx => h x (by simp [hx])]
    simp
theorem rd_S (out : List B) (j : Nat) (h : j < out.length) : rdOf ByteArray.empty (out.map S) (j : Int) = S (out.getD j []) := by
  unfold rdOf
  rw [List.getD_eq_getElem?_getD, List.getD_eq_getElem?_getD]
  simp [h]
theorem splice (out : List B) (s : ByteArray) (j : Nat) (hj : j ≤ out.length) : ([] ++ ((out.map S).take ((j : Int)).toNat).drop (Int.toNat 0)) ++ [s] ++ ((out.map S).take (Int.toNat ((out.map S).length : Int))).drop ((j : Int)).toNat = (out.take j ++ L s :: out.drop j).map S := by
  rw [Int.toNat_natCast, Int.toNat_natCast, List.take_length, List.nil_append]
  simp [List.map_take, List.map_drop]
theorem sort_ins (l : List ByteArray) (hl : l.length ≤ 1048576) (i : Nat) (hi : i < l.length) (out : List B) (hol : out.length ≤ 1048576) (ho : ∀ w ∈ out, w.length ≤ 1048576) {r : List ByteArray}
    (h : Ev (fun k => spec_SortVersions.l0 k l ((ins cmpS (L (l.getD i ByteArray.empty)) out).map S) ((i + 1 : Nat) : Int)) r) : ∀ e j, j + e = out.length → (∀ w ∈ out.take j, cmpS w (L (l.getD i ByteArray.empty)) < 0) →
    Ev (fun k => spec_SortVersions.l1 k l (out.map S) (i : Int) (j : Int) (readVer (L (l.getD i ByteArray.empty))).1 (readVer (L (l.getD i ByteArray.empty))).2.1 (readVer (L (l.getD i ByteArray.empty))).2.2.1 (readVer (L (l.getD i ByteArray.empty))).2.2.2.1) r := by
  have es : rdOf ByteArray.empty l (i : Int) = l.getD i ByteArray.empty := rfl
  generalize hs : l.getD i ByteArray.empty = s at *
  have hml : (out.map S).length = out.length := List.length_map ..
  intro e
  induction e with
  | zero =>
    intro j hj hlt
    have hins : ins cmpS (L s) out = out.take j ++ L s :: out.drop j := by
      rw [ins_take (L s) j out hlt, List.drop_of_length_le (by omega)]; rfl
    rw [hins, ← splice out s j (by omega)] at h
    refine Ev.step (f := fun k => spec_SortVersions.j1 k l (out.map S) (i : Int) (j : Int)) (fun k => by rw [spec_SortVersions.l1, if_neg (by omega)]) ?_
    refine Ev.step (fun k => by rw [spec_SortVersions.j1, if_neg (by omega), if_pos (by omega), if_pos (by omega), if_pos (by omega), if_pos (by omega), if_pos (by omega), es, wa1 i (by omega)]) ?_
    exact h
  | succ e ih =>
    intro j hj hlt
    have hjl : j < out.length := by omega
    have hw := ho _ (getD_mem out j [] hjl)
    refine Ev.step (fun k => by rw [spec_SortVersions.l1, if_pos (by omega), if_pos (by omega), rd_S out j hjl, wa1 j (by omega)]) ?_
    have hrv := spec_ReadVersion_ev (S (out.getD j [])) (by rw [size_S]; exact hw)
    rw [L_S] at hrv
    refine Ev.bind hrv (Ev.bind (spec_compare_ev (out.getD j []) (L s)) ?_)
    have hdrop := drop_getD out j [] hjl
    by_cases hc : cmpS (out.getD j []) (L s) < 0
    · refine ev_neg (by omega) (ih (j + 1) (by omega) fun w hw' => ?_)
      rw [List.take_succ_eq_append_getElem hjl, List.mem_append, List.mem_singleton] at hw'
      rcases hw' with hw' | rfl
      · exact hlt w hw'
      · rw [List.getD_eq_getElem?_getD, List.getElem?_eq_getElem hjl] at hc; exact hc
    · refine ev_pos (by omega) ?_
      by_cases he : out.getD j [] = L s
      · have hins : ins cmpS (L s) out = out := by
          rw [ins_take (L s) j out hlt, hdrop, ins, if_neg hc, if_pos he, ← hdrop]
          exact List.take_append_drop j out
        rw [hins] at h
        refine Ev.step (fun k => by rw [spec_SortVersions.j1, if_pos (by omega), if_pos (by omega), if_pos (by omega), if_pos (by omega), es, rd_S out j hjl, if_pos (by rw [toList_L, toList_L, L_S]; exact he), wa1 i (by omega)]) ?_
        exact h
      · have hins : ins cmpS (L s) out = out.take j ++ L s :: out.drop j := by
          rw [ins_take (L s) j out hlt, hdrop, ins, if_neg hc, if_neg he]
        rw [hins, ← splice out s j (by omega)] at h
        refine Ev.step (fun k => by rw [spec_SortVersions.j1, if_pos (by omega), if_pos (by omega), if_pos (by omega), if_pos (by omega), es, rd_S out j hjl, if_neg (by rw [toList_L, toList_L, L_S]; exact he), if_pos (by omega), if_pos (by omega), if_pos (by omega), if_pos (by omega), if_pos (by omega), wa1 i (by omega)]) ?_
        exact h
theorem ins_len (s : B) : ∀ out : List B, (ins cmpS s out).length ≤ out.length + 1
  | [] => by simp [ins]
  | w :: r => by
    rw [ins]
    split
    · have := ins_len s r; simp only [List.length_cons]; omega
    · split <;> simp
theorem spec_SortVersions_ev (l : List ByteArray) (hl : l.length ≤ 1048576) (hs : ∀ x ∈ l, x.size ≤ 1048576) : Ev (fun k => spec_SortVersions.f k l) ((sorted cmpS ((l.map L).filter isVer)).map S) := by
  unfold spec_SortVersions.f sorted
  have key : ∀ d i (out : List B), i + d = l.length → out.length ≤ i → (∀ w ∈ out, w.length ≤ 1048576) → Ev (fun k => spec_SortVersions.l0 k l (out.map S) (i : Int)) (((((l.drop i).map L).filter isVer).foldl (fun o s => ins cmpS s o) out).map S) := by
    intro d
    induction d with
    | zero =>
      intro i out hi ho hw
      rw [List.drop_of_length_le (by omega)]
      exact Ev.step (f := fun _ => some (out.map S)) (fun k => by rw [spec_SortVersions.l0, if_neg (by omega)]) (Ev.now _)
    | succ d ih =>
      intro i out hi ho hw
      have hlt : i < l.length := by omega
      have hm := hs _ (getD_mem l i ByteArray.empty hlt)
      have es : rdOf ByteArray.empty l (i : Int) = l.getD i ByteArray.empty := rfl
      rw [drop_getD l i ByteArray.empty hlt, List.map_cons]
      refine Ev.step (fun k => by rw [spec_SortVersions.l0, if_pos (by omega), if_pos (by omega), es, wa1 i (by omega)]) ?_
      refine Ev.bind (spec_ReadVersion_ev _ hm) ?_
      by_cases h : isVer (L (l.getD i ByteArray.empty)) = true
      · rw [List.filter_cons_of_pos h, List.foldl_cons]
        refine ev_pos h ?_
        have go := ih (i + 1) (ins cmpS (L (l.getD i ByteArray.empty)) out) (by omega) (by have := ins_len (L (l.getD i ByteArray.empty)) out; omega) (fun w hx => by
          rcases (mem_ins _ _ _).1 hx with rfl | hx
          · have := size_L (l.getD i ByteArray.empty); omega
          · exact hw w hx)
        exact sort_ins l hl i hlt out (by omega) hw go out.length 0 (by omega) (fun w hx => by simp at hx)
      · rw [List.filter_cons_of_neg h]
        exact ev_neg h (ih (i + 1) out (by omega) (by omega) hw)
  have := key l.length 0 [] (by omega) (by simp) (fun w hx => by simp at hx)
  rw [List.drop_zero] at this
  exact this
theorem sorted_ver (l : List ByteArray) (hs : ∀ x ∈ l, x.size ≤ 1048576) : ∀ x ∈ (sorted cmpS ((l.map L).filter isVer)).map S, isVer (L x) = true ∧ x.size ≤ 1048576 := by
  intro x hx
  obtain ⟨y, hy, rfl⟩ := List.mem_map.1 hx
  have hm := ((sorted_is cmpS_keyed ((l.map L).filter isVer) (fun a ha b hb h => cmpS_inj (List.mem_filter.1 ha).2 (List.mem_filter.1 hb).2 h)).2 y).1 hy
  obtain ⟨h1, h2⟩ := List.mem_filter.1 hm
  obtain ⟨z, hz, rfl⟩ := List.mem_map.1 h1
  exact ⟨by rw [L_S]; exact h2, by rw [S_L]; exact hs z hz⟩
theorem sorted_len (l : List B) : (sorted cmpS l).length ≤ l.length := by
  have : ∀ (l o : List B), (l.foldl (fun out s => ins cmpS s out) o).length ≤ l.length + o.length := by
    intro l
    induction l with
    | nil => intro o; simp
    | cons s l ih =>
      intro o
      have h1 := ih (ins cmpS s o)
      have h2 := ins_len s o
      rw [List.foldl_cons, List.length_cons]; omega
  exact this l []
theorem sorted_small (l : List ByteArray) (hl : l.length ≤ 1048576) : ((sorted cmpS ((l.map L).filter isVer)).map S).length ≤ 1048577 := by
  have h1 := sorted_len ((l.map L).filter isVer)
  have h2 := List.length_filter_le isVer (l.map L)
  rw [List.length_map] at h2 ⊢; omega
end Go.Proofs.YtcfeihimmboghaaGreatDoor.U

end
