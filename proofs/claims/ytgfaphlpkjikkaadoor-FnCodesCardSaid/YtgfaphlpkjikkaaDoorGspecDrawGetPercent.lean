-- PRINTED by print.py (a twelfth state) out of the translation. Not trusted: Lean checks it.
import Derived.Test.YtgfaphlpkjikkaaDoorG0
import Derived.Test.YtgfaphlpkjikkaaDoorGspecPutPercent
import Derived.Test.YtgfaphlpkjikkaaDoorGspecl01Byte
import Derived.Test.YtgfaphlpkjikkaaDoorGspecl01Pick
import Derived.Test.YtgfaphlpkjikkaaDoorGspecl01Raw
import Derived.Test.YtgfaphlpkjikkaaDoorGspecl01New
import Derived.Test.YtgfaphlpkjikkaaDoorGspecl01Bent
import Derived.Test.YtgfaphlpkjikkaaDoorGspecl01Once
namespace Go.Proofs.YtgfaphlpkjikkaaDoor.G
open Go.RowKit Go.Proofs.YtgfaphlpkjikkaaDoorW.PrintWords Go.Proofs.YtgfaphlpkjikkaaDoorW.PrintLast Go.Proofs.YtgfaphlpkjikkaaDoorW.PrintMore
attribute [local go_sem] max2_int min2_int max_two min_two max_three min_three max_four min_four   -- for this text's walks alone
attribute [local go_sem high] Go.Proofs.YtgfaphlpkjikkaaDoor.G.str_gtr Go.Proofs.YtgfaphlpkjikkaaDoor.G.str_leq Go.Proofs.YtgfaphlpkjikkaaDoor.G.str_geq
set_option linter.unusedVariables false
set_option linter.unusedSimpArgs false

/-! ### spec_DrawGetPercent: function 57 -/
def spec_DrawGetPercent.f (k : Nat) (l0 : List Int) : Option (ByteArray) := (spec_l01New.f k l0).bind fun bt634 => ((spec_l01Once.f bt634.1 bt634.2.1 bt634.2.2 4).bind fun bt638 => (if bt638.1 = true then ((spec_l01Pick.f bt634.1 bt638.2.1 bt638.2.2 (([(⟨#[37]⟩ : ByteArray), (⟨#[37, 52]⟩ : ByteArray), (⟨#[37, 52, 49]⟩ : ByteArray), (⟨#[37, 50, 70]⟩ : ByteArray), (⟨#[37, 50, 102]⟩ : ByteArray), (⟨#[97, 47, 98]⟩ : ByteArray), (⟨#[37, 122, 122]⟩ : ByteArray), (⟨#[97, 37, 50, 48, 98]⟩ : ByteArray)] : List ByteArray))).bind fun bt644 => (some bt644.1)) else ((spec_l01Raw.f k bt634.1 bt638.2.1 bt638.2.2).bind fun bt647 => ((spec_PutPercent.f k bt647.1).bind fun t650 => ((spec_l01Bent.f bt634.1 bt647.2.1 bt647.2.2 t650).bind fun bt651 => (some bt651.1))))))
theorem spec_DrawGetPercent.mono : ∀ a0 k, LeO (spec_DrawGetPercent.f k a0) (spec_DrawGetPercent.f (k + 1) a0) := by
 intro a0 k
 unfold spec_DrawGetPercent.f
 repeat' first
   | (with_reducible exact spec_PutPercent.mono _ _)
   | (with_reducible exact spec_l01New.mono _ _)
   | (with_reducible exact spec_l01Raw.mono _ _ _ _)
   | (with_reducible exact LeO.refl _)
   | (with_reducible exact LeO.none _)
   | (with_reducible refine LeO.ite ?_ ?_)
   | (with_reducible refine LeO.bind ?_ (fun _ => ?_))
   | exact spec_PutPercent.mono _ _
   | exact spec_l01New.mono _ _
   | exact spec_l01Raw.mono _ _ _ _
   | exact LeO.none _
   | refine LeO.ite ?_ ?_
   | refine LeO.bind ?_ (fun _ => ?_)
set_option maxHeartbeats 8000000 in
set_option maxRecDepth 100000 in
theorem spec_DrawGetPercent.calls (k : Nat) (A0 : Option Addr) (c0 : Nat) (l0 : List Int) (r : ByteArray) (w : World) (hr0 : Kd.C (Kd.int .u8) w A0 l0.length l0) (hc0 : l0.length ≤ c0) (h : spec_DrawGetPercent.f k l0 = some r) :
  Calls Tryd.prog 57 #[.slice A0 l0.length c0] w fun e w' => e = .returned (.string r) ∧ Below w.heap.size w w' := by
 have HR0 := Aside0.mk hr0
 have HC0 := Aside0.mk hc0
 clear hr0 hc0
 have HB := Aside0.mk (Below.refl w.heap.size w)
 have H : ((spec_l01New.f k l0).bind fun bt634 => ((spec_l01Once.f bt634.1 bt634.2.1 bt634.2.2 4).bind fun bt638 => (if bt638.1 = true then ((spec_l01Pick.f bt634.1 bt638.2.1 bt638.2.2 (([(⟨#[37]⟩ : ByteArray), (⟨#[37, 52]⟩ : ByteArray), (⟨#[37, 52, 49]⟩ : ByteArray), (⟨#[37, 50, 70]⟩ : ByteArray), (⟨#[37, 50, 102]⟩ : ByteArray), (⟨#[97, 47, 98]⟩ : ByteArray), (⟨#[37, 122, 122]⟩ : ByteArray), (⟨#[97, 37, 50, 48, 98]⟩ : ByteArray)] : List ByteArray))).bind fun bt644 => (some bt644.1)) else ((spec_l01Raw.f k bt634.1 bt638.2.1 bt638.2.2).bind fun bt647 => ((spec_PutPercent.f k bt647.1).bind fun t650 => ((spec_l01Bent.f bt634.1 bt647.2.1 bt647.2.2 t650).bind fun bt651 => (some bt651.1))))))) = some r := h
 clear h
 replace H := Option.bind_eq_some_iff.mp H
 obtain ⟨⟨t634, t635, t636⟩, A20, H⟩ := H
 replace H : ((spec_l01Once.f t634 t635 t636 4).bind fun bt638 => (if bt638.1 = true then ((spec_l01Pick.f t634 bt638.2.1 bt638.2.2 (([(⟨#[37]⟩ : ByteArray), (⟨#[37, 52]⟩ : ByteArray), (⟨#[37, 52, 49]⟩ : ByteArray), (⟨#[37, 50, 70]⟩ : ByteArray), (⟨#[37, 50, 102]⟩ : ByteArray), (⟨#[97, 47, 98]⟩ : ByteArray), (⟨#[37, 122, 122]⟩ : ByteArray), (⟨#[97, 37, 50, 48, 98]⟩ : ByteArray)] : List ByteArray))).bind fun bt644 => (some bt644.1)) else ((spec_l01Raw.f k t634 bt638.2.1 bt638.2.2).bind fun bt647 => ((spec_PutPercent.f k bt647.1).bind fun t650 => ((spec_l01Bent.f t634 bt647.2.1 bt647.2.2 t650).bind fun bt651 => (some bt651.1)))))) = some r := H
 have A2 := Aside0.mk A20
 clear A20
 replace H := Option.bind_eq_some_iff.mp H
 obtain ⟨⟨t638, t639, t640⟩, A30, H⟩ := H
 replace H : (if t638 = true then ((spec_l01Pick.f t634 t639 t640 (([(⟨#[37]⟩ : ByteArray), (⟨#[37, 52]⟩ : ByteArray), (⟨#[37, 52, 49]⟩ : ByteArray), (⟨#[37, 50, 70]⟩ : ByteArray), (⟨#[37, 50, 102]⟩ : ByteArray), (⟨#[97, 47, 98]⟩ : ByteArray), (⟨#[37, 122, 122]⟩ : ByteArray), (⟨#[97, 37, 50, 48, 98]⟩ : ByteArray)] : List ByteArray))).bind fun bt644 => (some bt644.1)) else ((spec_l01Raw.f k t634 t639 t640).bind fun bt647 => ((spec_PutPercent.f k bt647.1).bind fun t650 => ((spec_l01Bent.f t634 bt647.2.1 bt647.2.2 t650).bind fun bt651 => (some bt651.1))))) = some r := H
 have A3 := Aside0.mk A30
 clear A30
 by_cases c4 : t638 = true
 ·subst c4
  have H1 : ((spec_l01Pick.f t634 t639 t640 (([(⟨#[37]⟩ : ByteArray), (⟨#[37, 52]⟩ : ByteArray), (⟨#[37, 52, 49]⟩ : ByteArray), (⟨#[37, 50, 70]⟩ : ByteArray), (⟨#[37, 50, 102]⟩ : ByteArray), (⟨#[97, 47, 98]⟩ : ByteArray), (⟨#[37, 122, 122]⟩ : ByteArray), (⟨#[97, 37, 50, 48, 98]⟩ : ByteArray)] : List ByteArray))).bind fun bt644 => (some bt644.1)) = some r := by rw [if_pos rfl] at H; exact H
  clear H
  have H := H1
  clear H1
  obtain ⟨y641, hy641⟩ : ∃ y_ : List ByteArray, y_ = (([(⟨#[37]⟩ : ByteArray), (⟨#[37, 52]⟩ : ByteArray), (⟨#[37, 52, 49]⟩ : ByteArray), (⟨#[37, 50, 70]⟩ : ByteArray), (⟨#[37, 50, 102]⟩ : ByteArray), (⟨#[97, 47, 98]⟩ : ByteArray), (⟨#[37, 122, 122]⟩ : ByteArray), (⟨#[97, 37, 50, 48, 98]⟩ : ByteArray)] : List ByteArray)) := ⟨_, rfl⟩
  replace H : ((spec_l01Pick.f t634 t639 t640 y641).bind fun bt644 => (some bt644.1)) = some r := by first | (rw [hy641]; with_reducible exact H) | (have H2_ := (Option.bind_some _ _).symm.trans H; rw [hy641]; with_reducible exact H2_) | (have H2_ := (Option.bind_some _ _).symm.trans H; with_reducible exact H2_) | with_reducible exact H | (rw [hy641]; exact H) | exact H
  have Ny641 := Aside0.mk hy641
  clear hy641
  replace H := Option.bind_eq_some_iff.mp H
  obtain ⟨⟨t644, t645, t646⟩, A50, H⟩ := H
  replace H : (some t644) = some r := H
  have A5 := Aside0.mk A50
  clear A50
  obtain rfl := Option.some.inj H
  go_enter Tryd.func57, Tryd.ntmps57
  go_wp2_with (first | ((with_reducible refine gate_callee (f := 102) rfl ?_); refine goesL_ (some 5) rfl rfl Tryd.func102 (by kernel_rfl) rfl #[.slice A0 l0.length c0] rfl (by (try simp only [List.map_toArray, List.map_cons, List.map_nil]); first | done | rfl | (simp only [List.length_drop, List.length_take]; rfl)) ?_; (with_reducible refine (spec_l01New.calls k _ _ l0 t634 t635 t636 w _ ?side1 ?side2 ?side3 A2.out).mono ?_); (case side1 => repeat (first | (with_reducible first | exact HB.out | apply below_alloc | apply pw_below_drewN | apply below_drew1) | exact HB.out)); (case side2 => exact HR0.out); (case side3 => exact HC0.out); rintro e w6 ⟨g637, rfl, hi, hb, hb2⟩; refine ⟨_, rfl, ?_⟩; have n0_ := Aside0.mk (hb); have n1_ := Aside0.mk (hi); clear HB; have HB := n0_; have HI637 := n1_; clear n0_ n1_; (try clear hb); (try clear hb2); (try clear hk); (try clear hi)) | ((with_reducible refine gate_callee (f := 104) rfl ?_); refine goesL_ (some 7) rfl rfl Tryd.func104 (by kernel_rfl) rfl #[.pointer (some ⟨g637, 0, none⟩), .int .i64 4] rfl (by (try simp only [List.map_toArray, List.map_cons, List.map_nil]); first | done | rfl | (simp only [List.length_drop, List.length_take]; rfl)) ?_; (with_reducible refine (spec_l01Once.calls g637 t634 t635 t636 4 true t639 t640 w _ ?side1 ?side2 A3.out).mono ?_); (case side1 => repeat (first | (with_reducible first | exact HI637.out | apply IsS113.alloc | apply IsS113.drewN | apply IsS113.drew | apply IsS113.set_1 | apply IsS113.set_2) | exact HI637.out)); (case side2 => repeat (first | (with_reducible first | exact HB.out | apply below_alloc | apply pw_below_drewN | apply below_drew1 | refine below_set ?_ (IsS113.ge HI637.out)) | exact HB.out)); rintro e w7 ⟨rfl, hi, hb, hk⟩; refine ⟨_, rfl, ?_⟩; have n0_ := Aside0.mk (hb); have n1_ := Aside0.mk (hi); clear HB; clear HI637; have HB := n0_; have HI637 := n1_; clear n0_ n1_; (try clear hb); (try clear hb2); (try clear hk); (try clear hi)) | ((with_reducible refine gate_dst (N := 9) rfl ?_); refine Kd.R_lit Kd.string _ 9 ?hg (N := 9) ?hd (xs := ([(⟨#[37]⟩ : ByteArray), (⟨#[37, 52]⟩ : ByteArray), (⟨#[37, 52, 49]⟩ : ByteArray), (⟨#[37, 50, 70]⟩ : ByteArray), (⟨#[37, 50, 102]⟩ : ByteArray), (⟨#[97, 47, 98]⟩ : ByteArray), (⟨#[37, 122, 122]⟩ : ByteArray), (⟨#[97, 37, 50, 48, 98]⟩ : ByteArray)] : List ByteArray)) (inner := [.string (⟨#[37]⟩ : ByteArray), .string (⟨#[37, 52]⟩ : ByteArray), .string (⟨#[37, 52, 49]⟩ : ByteArray), .string (⟨#[37, 50, 70]⟩ : ByteArray), .string (⟨#[37, 50, 102]⟩ : ByteArray), .string (⟨#[97, 47, 98]⟩ : ByteArray), .string (⟨#[37, 122, 122]⟩ : ByteArray), .string (⟨#[97, 37, 50, 48, 98]⟩ : ByteArray)]) (ok := fun _ => True) (okp := fun _ => True) ?hr ?hp (fun _ hk => hk) trivial (Below.refl _ _) (Nat.le_refl _) (by simp) ?_; (case hd => rfl); (case hg => rfl); (case hr => first | (go_simp; done) | (go_simp; rfl)); (case hp => exact (Reps.one (show Kd.M Kd.string _ _ _ (⟨#[37]⟩ : ByteArray) [.string (⟨#[37]⟩ : ByteArray)] from rfl) (Reps.one (show Kd.M Kd.string _ _ _ (⟨#[37, 52]⟩ : ByteArray) [.string (⟨#[37, 52]⟩ : ByteArray)] from rfl) (Reps.one (show Kd.M Kd.string _ _ _ (⟨#[37, 52, 49]⟩ : ByteArray) [.string (⟨#[37, 52, 49]⟩ : ByteArray)] from rfl) (Reps.one (show Kd.M Kd.string _ _ _ (⟨#[37, 50, 70]⟩ : ByteArray) [.string (⟨#[37, 50, 70]⟩ : ByteArray)] from rfl) (Reps.one (show Kd.M Kd.string _ _ _ (⟨#[37, 50, 102]⟩ : ByteArray) [.string (⟨#[37, 50, 102]⟩ : ByteArray)] from rfl) (Reps.one (show Kd.M Kd.string _ _ _ (⟨#[97, 47, 98]⟩ : ByteArray) [.string (⟨#[97, 47, 98]⟩ : ByteArray)] from rfl) (Reps.one (show Kd.M Kd.string _ _ _ (⟨#[37, 122, 122]⟩ : ByteArray) [.string (⟨#[37, 122, 122]⟩ : ByteArray)] from rfl) (Reps.one (show Kd.M Kd.string _ _ _ (⟨#[97, 37, 50, 48, 98]⟩ : ByteArray) [.string (⟨#[97, 37, 50, 48, 98]⟩ : ByteArray)] from rfl) (Reps.none _ _)))))))))); intro v642 w8 ho9 hb hg_ hnew_; clear hg_ hnew_; (first | rw [← Ny641.out] at ho9 | (simp only [Int.reduceToNat] at ho9; rw [← Ny641.out] at ho9)); have n0_ := Aside0.mk (Kd.R_lower ho9 (below_size (by repeat (first | (with_reducible first | exact HB.out | apply below_alloc | apply pw_below_drewN | apply below_drew1 | refine below_set ?_ (IsS113.ge HI637.out)) | exact HB.out)))); have n1_ := Aside0.mk (IsS113.below (by repeat (first | (with_reducible first | exact HI637.out | apply IsS113.alloc | apply IsS113.drewN | apply IsS113.drew | apply IsS113.set_1 | apply IsS113.set_2) | exact HI637.out)) hb); have n2_ := Aside0.mk (below_step (by repeat (first | (with_reducible first | exact HB.out | apply below_alloc | apply pw_below_drewN | apply below_drew1 | refine below_set ?_ (IsS113.ge HI637.out)) | exact HB.out)) hb); clear HI637; clear HB; have HO643 := n0_; have HI637 := n1_; have HB := n2_; clear n0_ n1_ n2_; clear hb ho9; obtain ⟨Ao10, co10, eo10⟩ := Kd.R_slice HO643.out; subst eo10) | ((with_reducible refine gate_callee (f := 105) rfl ?_); refine goesL_ (some 10) rfl rfl Tryd.func105 (by kernel_rfl) rfl #[.pointer (some ⟨g637, 0, none⟩), .slice Ao10 y641.length co10] rfl (by (try simp only [List.map_toArray, List.map_cons, List.map_nil]); first | done | rfl | (simp only [List.length_drop, List.length_take]; rfl)) ?_; (with_reducible refine (spec_l01Pick.calls g637 t634 t639 t640 _ _ y641 t644 t645 t646 w _ ?side1 ?side2 ?side3 ?side4 ?side5 A5.out).mono ?_); (case side1 => repeat (first | (with_reducible first | exact HI637.out | apply IsS113.alloc | apply IsS113.drewN | apply IsS113.drew | apply IsS113.set_1 | apply IsS113.set_2) | exact HI637.out)); (case side2 => repeat (first | (with_reducible first | exact HB.out | apply below_alloc | apply pw_below_drewN | apply below_drew1 | refine below_set ?_ (IsS113.ge HI637.out)) | exact HB.out)); (case side3 => repeat (first | exact (Kd.R_reads' HO643.out).2.2 | (with_reducible refine Kd.C_alloc ?_ _) | (with_reducible refine Kd.C_drewN ?_ _) | (with_reducible refine Kd.C_drew ?_))); (case side4 => exact (Kd.R_reads' HO643.out).2.1); (case side5 => exact far_slice (IsS113.own_ne HI637.out HO643.out (by decide))); rintro e w11 ⟨rfl, hi, hb, hk⟩; refine ⟨_, rfl, ?_⟩; have n0_ := Aside0.mk (Kd.R_mono (Kd.R_keep (IsS113.apart (show IsS113 w _ g637 t634 t639 t640 from by repeat (first | (with_reducible first | exact HI637.out | apply IsS113.alloc | apply IsS113.drewN | apply IsS113.drew | apply IsS113.set_1 | apply IsS113.set_2) | exact HI637.out)) (by (with_reducible repeat (first | apply Kd.R_alloc | apply Kd.R_drewN | apply Kd.R_drew)); exact HO643.out) (by decide)) hk (fun _ h => h.2)) (fun _ h => h.1)); have n1_ := Aside0.mk (hb); have n2_ := Aside0.mk (hi); clear HO643; clear HB; clear HI637; have HO643 := n0_; have HB := n1_; have HI637 := n2_; clear n0_ n1_ n2_; (try clear hb); (try clear hb2); (try clear hk); (try clear hi)))
  go_ret
  exact ⟨by first | rfl | (simp [errW_none, errW_some] <;> rfl) | (simp [*, errW_none, errW_some] <;> rfl), by repeat (first | (with_reducible first | exact HB.out | apply below_alloc | apply pw_below_drewN | apply below_drew1 | refine below_set ?_ (IsS113.ge HI637.out)) | exact HB.out)⟩
 ·replace c4 := Bool.eq_false_iff.mpr c4
  subst c4
  have H1 : ((spec_l01Raw.f k t634 t639 t640).bind fun bt647 => ((spec_PutPercent.f k bt647.1).bind fun t650 => ((spec_l01Bent.f t634 bt647.2.1 bt647.2.2 t650).bind fun bt651 => (some bt651.1)))) = some r := by rw [if_neg (show ¬ (false = true) by decide)] at H; exact H
  clear H
  have H := H1
  clear H1
  replace H := Option.bind_eq_some_iff.mp H
  obtain ⟨⟨t647, t648, t649⟩, A120, H⟩ := H
  replace H : ((spec_PutPercent.f k t647).bind fun t650 => ((spec_l01Bent.f t634 t648 t649 t650).bind fun bt651 => (some bt651.1))) = some r := H
  have A12 := Aside0.mk A120
  clear A120
  replace H := Option.bind_eq_some_iff.mp H
  obtain ⟨t650, A130, H⟩ := H
  replace H : ((spec_l01Bent.f t634 t648 t649 t650).bind fun bt651 => (some bt651.1)) = some r := H
  have A13 := Aside0.mk A130
  clear A130
  replace H := Option.bind_eq_some_iff.mp H
  obtain ⟨⟨t651, t652, t653⟩, A140, H⟩ := H
  replace H : (some t651) = some r := H
  have A14 := Aside0.mk A140
  clear A140
  obtain rfl := Option.some.inj H
  go_enter Tryd.func57, Tryd.ntmps57
  go_wp2_with (first | ((with_reducible refine gate_callee (f := 102) rfl ?_); refine goesL_ (some 5) rfl rfl Tryd.func102 (by kernel_rfl) rfl #[.slice A0 l0.length c0] rfl (by (try simp only [List.map_toArray, List.map_cons, List.map_nil]); first | done | rfl | (simp only [List.length_drop, List.length_take]; rfl)) ?_; (with_reducible refine (spec_l01New.calls k _ _ l0 t634 t635 t636 w _ ?side1 ?side2 ?side3 A2.out).mono ?_); (case side1 => repeat (first | (with_reducible first | exact HB.out | apply below_alloc | apply pw_below_drewN | apply below_drew1) | exact HB.out)); (case side2 => exact HR0.out); (case side3 => exact HC0.out); rintro e w15 ⟨g637, rfl, hi, hb, hb2⟩; refine ⟨_, rfl, ?_⟩; have n0_ := Aside0.mk (hb); have n1_ := Aside0.mk (hi); clear HB; have HB := n0_; have HI637 := n1_; clear n0_ n1_; (try clear hb); (try clear hb2); (try clear hk); (try clear hi)) | ((with_reducible refine gate_callee (f := 104) rfl ?_); refine goesL_ (some 7) rfl rfl Tryd.func104 (by kernel_rfl) rfl #[.pointer (some ⟨g637, 0, none⟩), .int .i64 4] rfl (by (try simp only [List.map_toArray, List.map_cons, List.map_nil]); first | done | rfl | (simp only [List.length_drop, List.length_take]; rfl)) ?_; (with_reducible refine (spec_l01Once.calls g637 t634 t635 t636 4 false t639 t640 w _ ?side1 ?side2 A3.out).mono ?_); (case side1 => repeat (first | (with_reducible first | exact HI637.out | apply IsS113.alloc | apply IsS113.drewN | apply IsS113.drew | apply IsS113.set_1 | apply IsS113.set_2) | exact HI637.out)); (case side2 => repeat (first | (with_reducible first | exact HB.out | apply below_alloc | apply pw_below_drewN | apply below_drew1 | refine below_set ?_ (IsS113.ge HI637.out)) | exact HB.out)); rintro e w16 ⟨rfl, hi, hb, hk⟩; refine ⟨_, rfl, ?_⟩; have n0_ := Aside0.mk (hb); have n1_ := Aside0.mk (hi); clear HB; clear HI637; have HB := n0_; have HI637 := n1_; clear n0_ n1_; (try clear hb); (try clear hb2); (try clear hk); (try clear hi)) | ((with_reducible refine gate_callee (f := 101) rfl ?_); refine goesL_ (some 13) rfl rfl Tryd.func101 (by kernel_rfl) rfl #[.pointer (some ⟨g637, 0, none⟩)] rfl (by (try simp only [List.map_toArray, List.map_cons, List.map_nil]); first | done | rfl | (simp only [List.length_drop, List.length_take]; rfl)) ?_; (with_reducible refine (spec_l01Raw.calls k g637 t634 t639 t640 t647 t648 t649 w _ ?side1 ?side2 A12.out).mono ?_); (case side1 => repeat (first | (with_reducible first | exact HI637.out | apply IsS113.alloc | apply IsS113.drewN | apply IsS113.drew | apply IsS113.set_1 | apply IsS113.set_2) | exact HI637.out)); (case side2 => repeat (first | (with_reducible first | exact HB.out | apply below_alloc | apply pw_below_drewN | apply below_drew1 | refine below_set ?_ (IsS113.ge HI637.out)) | exact HB.out)); rintro e w17 ⟨rfl, hi, hb, hk⟩; refine ⟨_, rfl, ?_⟩; have n0_ := Aside0.mk (hb); have n1_ := Aside0.mk (hi); clear HB; clear HI637; have HB := n0_; have HI637 := n1_; clear n0_ n1_; (try clear hb); (try clear hb2); (try clear hk); (try clear hi)) | ((with_reducible refine gate_callee (f := 32) rfl ?_); refine goesL_ (some 14) rfl rfl Tryd.func32 (by kernel_rfl) rfl #[.string t647] rfl (by (try simp only [List.map_toArray, List.map_cons, List.map_nil]); first | done | rfl | (simp only [List.length_drop, List.length_take]; rfl)) ?_; (with_reducible refine (spec_PutPercent.calls k t647 t650 _ A13.out).mono ?_); rintro e w18 ⟨rfl, hb⟩; refine ⟨_, rfl, ?_⟩; have n0_ := Aside0.mk (IsS113.below (by repeat (first | (with_reducible first | exact HI637.out | apply IsS113.alloc | apply IsS113.drewN | apply IsS113.drew | apply IsS113.set_1 | apply IsS113.set_2) | exact HI637.out)) hb); have n1_ := Aside0.mk (below_step (by repeat (first | (with_reducible first | exact HB.out | apply below_alloc | apply pw_below_drewN | apply below_drew1 | refine below_set ?_ (IsS113.ge HI637.out)) | exact HB.out)) hb); clear HI637; clear HB; have HI637 := n0_; have HB := n1_; clear n0_ n1_; (try clear hb); (try clear hb2); (try clear hk); (try clear hi)) | ((with_reducible refine gate_callee (f := 103) rfl ?_); refine goesL_ (some 15) rfl rfl Tryd.func103 (by kernel_rfl) rfl #[.pointer (some ⟨g637, 0, none⟩), .string t650] rfl (by (try simp only [List.map_toArray, List.map_cons, List.map_nil]); first | done | rfl | (simp only [List.length_drop, List.length_take]; rfl)) ?_; (with_reducible refine (spec_l01Bent.calls g637 t634 t648 t649 t650 t651 t652 t653 w _ ?side1 ?side2 A14.out).mono ?_); (case side1 => repeat (first | (with_reducible first | exact HI637.out | apply IsS113.alloc | apply IsS113.drewN | apply IsS113.drew | apply IsS113.set_1 | apply IsS113.set_2) | exact HI637.out)); (case side2 => repeat (first | (with_reducible first | exact HB.out | apply below_alloc | apply pw_below_drewN | apply below_drew1 | refine below_set ?_ (IsS113.ge HI637.out)) | exact HB.out)); rintro e w19 ⟨rfl, hi, hb, hk⟩; refine ⟨_, rfl, ?_⟩; have n0_ := Aside0.mk (hb); have n1_ := Aside0.mk (hi); clear HB; clear HI637; have HB := n0_; have HI637 := n1_; clear n0_ n1_; (try clear hb); (try clear hb2); (try clear hk); (try clear hi)))
  go_ret
  exact ⟨by first | rfl | (simp [errW_none, errW_some] <;> rfl) | (simp [*, errW_none, errW_some] <;> rfl), by repeat (first | (with_reducible first | exact HB.out | apply below_alloc | apply pw_below_drewN | apply below_drew1 | refine below_set ?_ (IsS113.ge HI637.out)) | exact HB.out)⟩

end Go.Proofs.YtgfaphlpkjikkaaDoor.G
