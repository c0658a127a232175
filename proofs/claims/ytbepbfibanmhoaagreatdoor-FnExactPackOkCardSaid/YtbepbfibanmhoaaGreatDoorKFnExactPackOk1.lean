/- A part of the proof that the law FnExactPackOk answers true at every input that its row speaks of. Conditions: the row's own. -/
import Derived.Test.YtbepbfibanmhoaaGreatDoorKFnExactPackOk0
section
namespace Go.Proofs.YtbepbfibanmhoaaGreatDoor.G
open Go.RowKit Go.Proofs.YtbepbfibanmhoaaGreatDoorW.PrintWords Go.Proofs.YtbepbfibanmhoaaGreatDoorW.PrintLast Go.Proofs.YtbepbfibanmhoaaGreatDoorW.PrintMore
attribute [local go_sem] max2_int min2_int max_two min_two max_three min_three max_four min_four
attribute [local go_sem high] Go.Proofs.YtbepbfibanmhoaaGreatDoor.G.str_gtr Go.Proofs.YtbepbfibanmhoaaGreatDoor.G.str_leq Go.Proofs.YtbepbfibanmhoaaGreatDoor.G.str_geq
set_option linter.unusedVariables false
set_option linter.unusedSimpArgs false
def impl_sumLength.j0 : Nat → ByteArray → Bool → Option (Int)
 | 0, _, _ => none
 | k + 1, x3, x6 => if x6 = true then (some 32) else (if x3.toList = ([115, 104, 97, 53, 49, 50] : List UInt8) then (some 64) else (some (-1)))
def impl_sumLength.f (k : Nat) (a0 : ByteArray) : Option (Int) := if a0.toList = ([115, 104, 97, 49] : List UInt8) then (some 20) else (if a0.toList = ([115, 104, 97, 50, 53, 54] : List UInt8) then (impl_sumLength.j0 k a0 (a0.toList == ([115, 104, 97, 50, 53, 54] : List UInt8))) else (impl_sumLength.j0 k a0 (a0.toList == ([104, 49] : List UInt8))))
set_option maxHeartbeats 8000000 in
set_option maxRecDepth 100000 in
theorem impl_sumLength.calls (k : Nat) (a0 : ByteArray) (r : Int) (w : World) (h : impl_sumLength.f k a0 = some r) :
  Calls Tryz.prog 75 #[.string a0] w fun e w' => e = .returned (.int .i64 r) ∧ Drawn0 w w' := by
 have H : (if a0.toList = ([115, 104, 97, 49] : List UInt8) then (some 20) else (if a0.toList = ([115, 104, 97, 50, 53, 54] : List UInt8) then (impl_sumLength.j0 k a0 (a0.toList == ([115, 104, 97, 50, 53, 54] : List UInt8))) else (impl_sumLength.j0 k a0 (a0.toList == ([104, 49] : List UInt8))))) = some r := h
 clear h
 by_cases c2 : a0.toList = ([115, 104, 97, 49] : List UInt8)
 ·rw [if_pos c2] at H
  have c2b0 : (a0.toList == ([115, 104, 97, 49] : List UInt8)) = true := beq_iff_eq.mpr c2
  have c2b1 : (a0.toList != ([115, 104, 97, 49] : List UInt8)) = false := bne_eq_false_iff_eq.mpr c2
  clear c2
  obtain rfl := Option.some.inj H
  go_enter Tryz.func75, Tryz.ntmps75
  go_wp2
  go_ret
  exact zs1
 ·rw [if_neg c2] at H
  have c2b0 : (a0.toList == ([115, 104, 97, 49] : List UInt8)) = false := beq_eq_false_iff_ne.mpr c2
  have c2b1 : (a0.toList != ([115, 104, 97, 49] : List UInt8)) = true := bne_iff_ne.mpr c2
  have HC3 := Aside0.mk H
  clear H
  go_enter Tryz.func75, Tryz.ntmps75
  go_upto_if 6 with (fail)
  go_cut [6] (fun v6 wc => ∃ (kq : Nat) (x6_2 : Bool), v6 = .bool x6_2 ∧ Aside0 (impl_sumLength.j0 kq a0 x6_2 = some r) ∧ Aside0 (kq ≤ k) ∧ Drawn0 w wc)
  case first =>
   have H := HC3.out
   clear HC3
   by_cases c4 : a0.toList = ([115, 104, 97, 50, 53, 54] : List UInt8)
   ·rw [if_pos c4] at H
    have c4b0 : (a0.toList == ([115, 104, 97, 50, 53, 54] : List UInt8)) = true := beq_iff_eq.mpr c4
    have c4b1 : (a0.toList != ([115, 104, 97, 50, 53, 54] : List UInt8)) = false := bne_eq_false_iff_eq.mpr c4
    clear c4
    (first | rw [c4b0] | (simp only [i64_w, i32_w]; rw [c4b0]) | skip)
    have H' := Aside0.mk H
    clear H
    go_wp2
    go_meet
    case rel => exact ⟨_, ((a0.toList == ([115, 104, 97, 50, 53, 54] : List UInt8))), zb5, H', ⟨by first | omega | exact Nat.le_refl _⟩, by repeat (first | exact Drawn0.refl _ | apply Drawn0.step)⟩
   ·rw [if_neg c4] at H
    have c4b0 : (a0.toList == ([115, 104, 97, 50, 53, 54] : List UInt8)) = false := beq_eq_false_iff_ne.mpr c4
    have c4b1 : (a0.toList != ([115, 104, 97, 50, 53, 54] : List UInt8)) = true := bne_iff_ne.mpr c4
    (first | rw [c4b0] | (simp only [i64_w, i32_w]; rw [c4b0]) | skip)
    have H' := Aside0.mk H
    clear H
    go_wp2
    go_meet
    case rel => exact ⟨_, ((a0.toList == ([104, 49] : List UInt8))), zb5, H', ⟨by first | omega | exact Nat.le_refl _⟩, by repeat (first | exact Drawn0.refl _ | apply Drawn0.step)⟩
  case rest =>
   clear HC3
   try clear c2
   try clear c2b0
   try clear c2b1
   try clear p2
   try clear c4
   try clear c4b0
   try clear c4b1
   obtain ⟨kq, x6_2, rfl, HA, HJ2, ⟨mc2, rfl⟩⟩ := hcut
   cases kq with
   | zero => exact absurd HA.out (by simp [impl_sumLength.j0])
   | succ kj2 =>
    have H := HA.out
    clear HA
    simp only [impl_sumLength.j0] at H
    by_cases c5 : x6_2 = true
    ·subst c5
     have H1 : (some 32) = some r := by rw [if_pos rfl] at H; exact H
     clear H
     have H := H1
     clear H1
     obtain rfl := Option.some.inj H
     go_wp2
     go_ret
     exact zs1
    ·replace c5 := Bool.eq_false_iff.mpr c5
     subst c5
     have H1 : (if a0.toList = ([115, 104, 97, 53, 49, 50] : List UInt8) then (some 64) else (some (-1))) = some r := by rw [if_neg (show ¬ (false = true) by decide)] at H; exact H
     clear H
     have H := H1
     clear H1
     by_cases c6 : a0.toList = ([115, 104, 97, 53, 49, 50] : List UInt8)
     ·rw [if_pos c6] at H
      have c6b0 : (a0.toList == ([115, 104, 97, 53, 49, 50] : List UInt8)) = true := beq_iff_eq.mpr c6
      have c6b1 : (a0.toList != ([115, 104, 97, 53, 49, 50] : List UInt8)) = false := bne_eq_false_iff_eq.mpr c6
      clear c6
      obtain rfl := Option.some.inj H
      go_wp2
      go_ret
      exact zs1
     ·rw [if_neg c6] at H
      have c6b0 : (a0.toList == ([115, 104, 97, 53, 49, 50] : List UInt8)) = false := beq_eq_false_iff_ne.mpr c6
      have c6b1 : (a0.toList != ([115, 104, 97, 53, 49, 50] : List UInt8)) = true := bne_iff_ne.mpr c6
      obtain rfl := Option.some.inj H
      go_wp2
      go_ret
      exact zs1
def impl_areSums.l0 : Nat → List (S62) → List (S62) → Int → Int → Option (Bool)
 | 0, _, _, _, _ => none
 | k + 1, x0, x5, x6, x7 => if x7 < x6 then (if 0 ≤ x7 then (if x7 < (x5.length : Int) then ((impl_sumLength.f k ((rd_T62 x5 x7).f0)).bind fun t622 => (if (((rd_T62 x5 x7).f1).size : Int) = t622 then (if x7 > 0 then (if 0 ≤ (wrap64 (x7 - 1)) then (if (wrap64 (x7 - 1)) < (x0.length : Int) then (if ((Op.bytesLess (((rd_T62 x0 (wrap64 (x7 - 1))).f0).toList) (((rd_T62 x5 x7).f0).toList)) = true) then (impl_areSums.l0 k x0 x5 x6 (wrap64 (x7 + 1))) else (some false)) else (none)) else (none)) else (impl_areSums.l0 k x0 x5 x6 (wrap64 (x7 + 1)))) else (some false))) else (none)) else (none)) else (some true)
def impl_areSums.f (k : Nat) (l0 : List (S62)) : Option (Bool) := impl_areSums.l0 k l0 l0 (l0.length : Int) 0
set_option maxHeartbeats 8000000 in
set_option maxRecDepth 100000 in
theorem impl_areSums.calls (k : Nat) (A0 : Option Addr) (c0 : Nat) (l0 : List (S62)) (r : Bool) (w : World) (hr0 : Kd.C k62 w A0 l0.length l0) (hc0 : l0.length ≤ c0) (h : impl_areSums.f k l0 = some r) :
  Calls Tryz.prog 44 #[.slice A0 l0.length c0] w fun e w' => e = .returned (.bool r) ∧ Below w.heap.size w w' := by
 have hu62 := Tryz.underlying62
 have HR0 := Aside0.mk hr0
 have HC0 := Aside0.mk hc0
 clear hr0 hc0
 have HB := Aside0.mk (Below.refl w.heap.size w)
 have H : (impl_areSums.l0 k l0 l0 (l0.length : Int) 0) = some r := h
 clear h
 have H' := Aside0.mk H
 clear H
 go_enter Tryz.func44, Tryz.ntmps44
 go_wp2
 repeat (go_quiet (fail); try go_wp2)
 go_loopg [7] k (fun kq v7 w' => ∃ (x7_1 : Int), v7 = .int .i64 x7_1 ∧ Aside0 (impl_areSums.l0 kq l0 l0 (l0.length : Int) x7_1 = some r) ∧ Aside0 (kq ≤ k) ∧ Aside0 (Below w.heap.size w w'))
 case atStart => exact ⟨(0), zb5, H', ⟨Nat.le_refl _⟩, ⟨by repeat (first | (with_reducible first | exact HB.out | apply below_alloc | apply pw_below_drewN | apply below_drew1) | exact HB.out)⟩⟩
 case round =>
  clear H'
  obtain ⟨x7_1, rfl, HA, HK1, HB⟩ := hrel
  cases gk with
  | zero => exact absurd HA.out (by simp [impl_areSums.l0])
  | succ k1 =>
   have H := HA.out
   clear HA
   simp only [impl_areSums.l0] at H
   by_cases c2 : x7_1 < (l0.length : Int)
   ·rw [if_pos c2] at H
    have c2b0 : decide (x7_1 < (l0.length : Int)) = true := decide_eq_true c2
    clear c2
    by_cases c3 : 0 ≤ x7_1
    ·rw [if_pos c3] at H
     have c3b0 : decide (0 ≤ x7_1) = true := decide_eq_true c3
     clear c3
     by_cases c4 : x7_1 < (l0.length : Int)
     ·rw [if_pos c4] at H
      have c4b0 : decide (x7_1 < (l0.length : Int)) = true := decide_eq_true c4
      clear c4
      replace H := Option.bind_eq_some_iff.mp H
      obtain ⟨t622, A50, H⟩ := H
      replace H : (if (((rd_T62 l0 x7_1).f1).size : Int) = t622 then (if x7_1 > 0 then (if 0 ≤ (wrap64 (x7_1 - 1)) then (if (wrap64 (x7_1 - 1)) < (l0.length : Int) then (if ((Op.bytesLess (((rd_T62 l0 (wrap64 (x7_1 - 1))).f0).toList) (((rd_T62 l0 x7_1).f0).toList)) = true) then (impl_areSums.l0 k1 l0 l0 (l0.length : Int) (wrap64 (x7_1 + 1))) else (some false)) else (none)) else (none)) else (impl_areSums.l0 k1 l0 l0 (l0.length : Int) (wrap64 (x7_1 + 1)))) else (some false)) = some r := H
      have A5 := Aside0.mk A50
      clear A50
      by_cases c6 : (((rd_T62 l0 x7_1).f1).size : Int) = t622
      ·rw [if_pos c6] at H
       have c6b0 : ((((rd_T62 l0 x7_1).f1).size : Int) == t622) = true := beq_iff_eq.mpr c6
       have c6b1 : ((((rd_T62 l0 x7_1).f1).size : Int) != t622) = false := bne_eq_false_iff_eq.mpr c6
       clear c6
       by_cases c7 : x7_1 > 0
       ·rw [if_pos c7] at H
        have c7b0 : decide (0 < x7_1) = true := decide_eq_true c7
        clear c7
        obtain ⟨ji8, hji8⟩ : ∃ j_ : Int, (wrap64 (x7_1 - 1)) = j_ := ⟨_, rfl⟩
        replace H : (if 0 ≤ (ji8) then (if (ji8) < (l0.length : Int) then (if ((Op.bytesLess (((rd_T62 l0 (ji8)).f0).toList) (((rd_T62 l0 x7_1).f0).toList)) = true) then (impl_areSums.l0 k1 l0 l0 (l0.length : Int) (wrap64 (x7_1 + 1))) else (some false)) else (none)) else (none)) = some r := by first | (rw [hji8] at H; exact H) | (simp only [hji8] at H ⊢; exact H)
        (try rw [hji8] at A5)
        have hji8w : (IntKind.i64.wrap (x7_1 - 1)) = ji8 := (i64_w _).trans hji8
        by_cases c9 : 0 ≤ (ji8)
        ·rw [if_pos c9] at H
         have c9b0 : decide (0 ≤ (ji8)) = true := decide_eq_true c9
         clear c9
         by_cases c10 : (ji8) < (l0.length : Int)
         ·rw [if_pos c10] at H
          have c10b0 : decide ((ji8) < (l0.length : Int)) = true := decide_eq_true c10
          clear c10
          by_cases c11 : ((Op.bytesLess (((rd_T62 l0 (ji8)).f0).toList) (((rd_T62 l0 x7_1).f0).toList)) = true)
          ·rw [if_pos c11] at H
           have c11b0 : (Op.bytesLess (((rd_T62 l0 (ji8)).f0).toList) (((rd_T62 l0 x7_1).f0).toList)) = true := c11
           clear c11
           have H' := Aside0.mk H
           clear H
           have p620 : 0 ≤ (x7_1 : Int) := of_decide_eq_true zb2
           have q620 : x7_1 < (l0.length : Int) := of_decide_eq_true zb2
           obtain ⟨ad620, e620, hx620_0, hx620_1⟩ := at_T62 HR0.out x7_1 p620 q620
           cases e620
           replace hx620_0 := (HB.out.cell (World.block_lt_of_cell? w _ hx620_0)).trans hx620_0
           replace hx620_1 := (HB.out.cell (World.block_lt_of_cell? w _ hx620_1)).trans hx620_1
           replace p620 := eq_true p620
           replace q620 := eq_true q620
           go_wp2_with (first | ((with_reducible refine gate_dst (N := 4) rfl ?_); refine box_event ?hg (N := 4) ?hd (cs := #[.string (⟨#[]⟩ : ByteArray), .string (⟨#[]⟩ : ByteArray)]) (t := 62) ?hr ?_; (case hd => rfl); (case hg => rfl); (case hr => first | (go_simp; done) | (go_simp; rfl)); intro gb621 hg w12 hbox hb; have n0_ := Aside0.mk (below_step zb0 hb); have n1_ := Aside0.mk (hbox); have n2_ := Aside0.mk ((by rw [hg]; exact (below_size zb0) : w.heap.size ≤ gb621)); have n3_ := Aside0.mk ((by rw [hg]; exact (below_size zb0) : w.heap.size ≤ gb621)); clear HB; have HB := n0_; have BK621 := n1_; have GW621 := n2_; have GE621 := n3_; clear n0_ n1_ n2_ n3_; clear hb hbox hg; obtain ⟨hcz13_0, hcz13_1, hfz13_0, hfz13_1⟩ := blk_2 BK621.out) | (go_at_call 75; (with_reducible refine (impl_sumLength.calls k1 ((rd_T62 l0 x7_1).f0) t622 _ A5.out).mono ?_); rintro e w' ⟨rfl, ⟨nd, rfl⟩⟩; (try first | exact ⟨rfl, _, World.drewN_drewN _ _ _⟩ | exact ⟨rfl, _, Eq.trans (World.drewN_drewN _ _ _) (congrArg (World.drewN _) (Nat.add_assoc _ _ _))⟩); have p623 : 0 ≤ ((ji8) : Int) := of_decide_eq_true zb2; have q623 : (ji8) < (l0.length : Int) := of_decide_eq_true zb2; obtain ⟨ad623, e623, hx623_0, hx623_1⟩ := at_T62 HR0.out (ji8) p623 q623; obtain rfl : ad620 = ad623 := (by injection e623); have hn623_0 : ad620.block ≠ gb621 := Nat.ne_of_lt (Nat.lt_of_lt_of_le (by have := World.block_lt_of_cell? _ _ hx623_0; first | rwa [add_block] at this | exact this) GW621.out); have hn623_1 : ad620.block ≠ gb621 := Nat.ne_of_lt (Nat.lt_of_lt_of_le (by have := World.block_lt_of_cell? _ _ hx623_0; first | rwa [add_block] at this | exact this) GW621.out); replace hx623_0 := (HB.out.cell (World.block_lt_of_cell? w _ hx623_0)).trans hx623_0; replace hx623_1 := (HB.out.cell (World.block_lt_of_cell? w _ hx623_1)).trans hx623_1; replace hx623_0 := (cell_far (p := ⟨gb621, 0, none⟩) (by first | (rw [add_block]; exact hn623_0) | (show (Addr.add _ _).block ≠ _; rw [add_block]; exact hn623_0) | exact hn623_0) (.string ((rd_T62 l0 x7_1).f0))).trans hx623_0; replace hx623_1 := (cell_far (p := ⟨gb621, 0, none⟩) (by first | (rw [add_block]; exact hn623_0) | (show (Addr.add _ _).block ≠ _; rw [add_block]; exact hn623_0) | exact hn623_0) (.string ((rd_T62 l0 x7_1).f0))).trans hx623_1; (try have hx623_0d := (cell_far (W := World.drewN _ nd) (p := ⟨gb621, 1, none⟩) (by first | (rw [add_block]; exact hn623_1) | (show (Addr.add _ _).block ≠ _; rw [add_block]; exact hn623_1) | exact hn623_1) (.string ((rd_T62 l0 x7_1).f1))).trans ((World.cell?_drewN _ nd _).trans hx623_0)); (try have hx623_1d := (cell_far (W := World.drewN _ nd) (p := ⟨gb621, 1, none⟩) (by first | (rw [add_block]; exact hn623_1) | (show (Addr.add _ _).block ≠ _; rw [add_block]; exact hn623_1) | exact hn623_1) (.string ((rd_T62 l0 x7_1).f1))).trans ((World.cell?_drewN _ nd _).trans hx623_1)); replace hx623_0 := (cell_far (p := ⟨gb621, 1, none⟩) (by first | (rw [add_block]; exact hn623_1) | (show (Addr.add _ _).block ≠ _; rw [add_block]; exact hn623_1) | exact hn623_1) (.string ((rd_T62 l0 x7_1).f1))).trans hx623_0; replace hx623_1 := (cell_far (p := ⟨gb621, 1, none⟩) (by first | (rw [add_block]; exact hn623_1) | (show (Addr.add _ _).block ≠ _; rw [add_block]; exact hn623_1) | exact hn623_1) (.string ((rd_T62 l0 x7_1).f1))).trans hx623_1; (try have hy623_0 := fun (n_ : Nat) => (show ((((w12.drewN n_).setCell ⟨gb621, 0, none⟩ (.string ((rd_T62 l0 x7_1).f0))).setCell ⟨gb621, 1, none⟩ (.string ((rd_T62 l0 x7_1).f1)))).cell? _ = some _ from hx623_0)); (try have hy623_1 := fun (n_ : Nat) => (show ((((w12.drewN n_).setCell ⟨gb621, 0, none⟩ (.string ((rd_T62 l0 x7_1).f0))).setCell ⟨gb621, 1, none⟩ (.string ((rd_T62 l0 x7_1).f1)))).cell? _ = some _ from hx623_1)); clear hn623_0; clear hn623_1; replace p623 := eq_true p623; replace q623 := eq_true q623))
           repeat (go_quiet (first | ((with_reducible refine gate_dst (N := 4) rfl ?_); refine box_event ?hg (N := 4) ?hd (cs := #[.string (⟨#[]⟩ : ByteArray), .string (⟨#[]⟩ : ByteArray)]) (t := 62) ?hr ?_; (case hd => rfl); (case hg => rfl); (case hr => first | (go_simp; done) | (go_simp; rfl)); intro gb621 hg w12 hbox hb; have n0_ := Aside0.mk (below_step zb0 hb); have n1_ := Aside0.mk (hbox); have n2_ := Aside0.mk ((by rw [hg]; exact (below_size zb0) : w.heap.size ≤ gb621)); have n3_ := Aside0.mk ((by rw [hg]; exact (below_size zb0) : w.heap.size ≤ gb621)); clear HB; have HB := n0_; have BK621 := n1_; have GW621 := n2_; have GE621 := n3_; clear n0_ n1_ n2_ n3_; clear hb hbox hg; obtain ⟨hcz13_0, hcz13_1, hfz13_0, hfz13_1⟩ := blk_2 BK621.out) | (go_at_call 75; (with_reducible refine (impl_sumLength.calls k1 ((rd_T62 l0 x7_1).f0) t622 _ A5.out).mono ?_); rintro e w' ⟨rfl, ⟨nd, rfl⟩⟩; (try first | exact ⟨rfl, _, World.drewN_drewN _ _ _⟩ | exact ⟨rfl, _, Eq.trans (World.drewN_drewN _ _ _) (congrArg (World.drewN _) (Nat.add_assoc _ _ _))⟩); have p623 : 0 ≤ ((ji8) : Int) := of_decide_eq_true zb2; have q623 : (ji8) < (l0.length : Int) := of_decide_eq_true zb2; obtain ⟨ad623, e623, hx623_0, hx623_1⟩ := at_T62 HR0.out (ji8) p623 q623; obtain rfl : ad620 = ad623 := (by injection e623); have hn623_0 : ad620.block ≠ gb621 := Nat.ne_of_lt (Nat.lt_of_lt_of_le (by have := World.block_lt_of_cell? _ _ hx623_0; first | rwa [add_block] at this | exact this) GW621.out); have hn623_1 : ad620.block ≠ gb621 := Nat.ne_of_lt (Nat.lt_of_lt_of_le (by have := World.block_lt_of_cell? _ _ hx623_0; first | rwa [add_block] at this | exact this) GW621.out); replace hx623_0 := (HB.out.cell (World.block_lt_of_cell? w _ hx623_0)).trans hx623_0; replace hx623_1 := (HB.out.cell (World.block_lt_of_cell? w _ hx623_1)).trans hx623_1; replace hx623_0 := (cell_far (p := ⟨gb621, 0, none⟩) (by first | (rw [add_block]; exact hn623_0) | (show (Addr.add _ _).block ≠ _; rw [add_block]; exact hn623_0) | exact hn623_0) (.string ((rd_T62 l0 x7_1).f0))).trans hx623_0; replace hx623_1 := (cell_far (p := ⟨gb621, 0, none⟩) (by first | (rw [add_block]; exact hn623_0) | (show (Addr.add _ _).block ≠ _; rw [add_block]; exact hn623_0) | exact hn623_0) (.string ((rd_T62 l0 x7_1).f0))).trans hx623_1; (try have hx623_0d := (cell_far (W := World.drewN _ nd) (p := ⟨gb621, 1, none⟩) (by first | (rw [add_block]; exact hn623_1) | (show (Addr.add _ _).block ≠ _; rw [add_block]; exact hn623_1) | exact hn623_1) (.string ((rd_T62 l0 x7_1).f1))).trans ((World.cell?_drewN _ nd _).trans hx623_0)); (try have hx623_1d := (cell_far (W := World.drewN _ nd) (p := ⟨gb621, 1, none⟩) (by first | (rw [add_block]; exact hn623_1) | (show (Addr.add _ _).block ≠ _; rw [add_block]; exact hn623_1) | exact hn623_1) (.string ((rd_T62 l0 x7_1).f1))).trans ((World.cell?_drewN _ nd _).trans hx623_1)); replace hx623_0 := (cell_far (p := ⟨gb621, 1, none⟩) (by first | (rw [add_block]; exact hn623_1) | (show (Addr.add _ _).block ≠ _; rw [add_block]; exact hn623_1) | exact hn623_1) (.string ((rd_T62 l0 x7_1).f1))).trans hx623_0; replace hx623_1 := (cell_far (p := ⟨gb621, 1, none⟩) (by first | (rw [add_block]; exact hn623_1) | (show (Addr.add _ _).block ≠ _; rw [add_block]; exact hn623_1) | exact hn623_1) (.string ((rd_T62 l0 x7_1).f1))).trans hx623_1; (try have hy623_0 := fun (n_ : Nat) => (show ((((w12.drewN n_).setCell ⟨gb621, 0, none⟩ (.string ((rd_T62 l0 x7_1).f0))).setCell ⟨gb621, 1, none⟩ (.string ((rd_T62 l0 x7_1).f1)))).cell? _ = some _ from hx623_0)); (try have hy623_1 := fun (n_ : Nat) => (show ((((w12.drewN n_).setCell ⟨gb621, 0, none⟩ (.string ((rd_T62 l0 x7_1).f0))).setCell ⟨gb621, 1, none⟩ (.string ((rd_T62 l0 x7_1).f1)))).cell? _ = some _ from hx623_1)); clear hn623_0; clear hn623_1; replace p623 := eq_true p623; replace q623 := eq_true q623)); try go_wp2_with (first | ((with_reducible refine gate_dst (N := 4) rfl ?_); refine box_event ?hg (N := 4) ?hd (cs := #[.string (⟨#[]⟩ : ByteArray), .string (⟨#[]⟩ : ByteArray)]) (t := 62) ?hr ?_; (case hd => rfl); (case hg => rfl); (case hr => first | (go_simp; done) | (go_simp; rfl)); intro gb621 hg w12 hbox hb; have n0_ := Aside0.mk (below_step zb0 hb); have n1_ := Aside0.mk (hbox); have n2_ := Aside0.mk ((by rw [hg]; exact (below_size zb0) : w.heap.size ≤ gb621)); have n3_ := Aside0.mk ((by rw [hg]; exact (below_size zb0) : w.heap.size ≤ gb621)); clear HB; have HB := n0_; have BK621 := n1_; have GW621 := n2_; have GE621 := n3_; clear n0_ n1_ n2_ n3_; clear hb hbox hg; obtain ⟨hcz13_0, hcz13_1, hfz13_0, hfz13_1⟩ := blk_2 BK621.out) | (go_at_call 75; (with_reducible refine (impl_sumLength.calls k1 ((rd_T62 l0 x7_1).f0) t622 _ A5.out).mono ?_); rintro e w' ⟨rfl, ⟨nd, rfl⟩⟩; (try first | exact ⟨rfl, _, World.drewN_drewN _ _ _⟩ | exact ⟨rfl, _, Eq.trans (World.drewN_drewN _ _ _) (congrArg (World.drewN _) (Nat.add_assoc _ _ _))⟩); have p623 : 0 ≤ ((ji8) : Int) := of_decide_eq_true zb2; have q623 : (ji8) < (l0.length : Int) := of_decide_eq_true zb2; obtain ⟨ad623, e623, hx623_0, hx623_1⟩ := at_T62 HR0.out (ji8) p623 q623; obtain rfl : ad620 = ad623 := (by injection e623); have hn623_0 : ad620.block ≠ gb621 := Nat.ne_of_lt (Nat.lt_of_lt_of_le (by have := World.block_lt_of_cell? _ _ hx623_0; first | rwa [add_block] at this | exact this) GW621.out); have hn623_1 : ad620.block ≠ gb621 := Nat.ne_of_lt (Nat.lt_of_lt_of_le (by have := World.block_lt_of_cell? _ _ hx623_0; first | rwa [add_block] at this | exact this) GW621.out); replace hx623_0 := (HB.out.cell (World.block_lt_of_cell? w _ hx623_0)).trans hx623_0; replace hx623_1 := (HB.out.cell (World.block_lt_of_cell? w _ hx623_1)).trans hx623_1; replace hx623_0 := (cell_far (p := ⟨gb621, 0, none⟩) (by first | (rw [add_block]; exact hn623_0) | (show (Addr.add _ _).block ≠ _; rw [add_block]; exact hn623_0) | exact hn623_0) (.string ((rd_T62 l0 x7_1).f0))).trans hx623_0; replace hx623_1 := (cell_far (p := ⟨gb621, 0, none⟩) (by first | (rw [add_block]; exact hn623_0) | (show (Addr.add _ _).block ≠ _; rw [add_block]; exact hn623_0) | exact hn623_0) (.string ((rd_T62 l0 x7_1).f0))).trans hx623_1; (try have hx623_0d := (cell_far (W := World.drewN _ nd) (p := ⟨gb621, 1, none⟩) (by first | (rw [add_block]; exact hn623_1) | (show (Addr.add _ _).block ≠ _; rw [add_block]; exact hn623_1) | exact hn623_1) (.string ((rd_T62 l0 x7_1).f1))).trans ((World.cell?_drewN _ nd _).trans hx623_0)); (try have hx623_1d := (cell_far (W := World.drewN _ nd) (p := ⟨gb621, 1, none⟩) (by first | (rw [add_block]; exact hn623_1) | (show (Addr.add _ _).block ≠ _; rw [add_block]; exact hn623_1) | exact hn623_1) (.string ((rd_T62 l0 x7_1).f1))).trans ((World.cell?_drewN _ nd _).trans hx623_1)); replace hx623_0 := (cell_far (p := ⟨gb621, 1, none⟩) (by first | (rw [add_block]; exact hn623_1) | (show (Addr.add _ _).block ≠ _; rw [add_block]; exact hn623_1) | exact hn623_1) (.string ((rd_T62 l0 x7_1).f1))).trans hx623_0; replace hx623_1 := (cell_far (p := ⟨gb621, 1, none⟩) (by first | (rw [add_block]; exact hn623_1) | (show (Addr.add _ _).block ≠ _; rw [add_block]; exact hn623_1) | exact hn623_1) (.string ((rd_T62 l0 x7_1).f1))).trans hx623_1; (try have hy623_0 := fun (n_ : Nat) => (show ((((w12.drewN n_).setCell ⟨gb621, 0, none⟩ (.string ((rd_T62 l0 x7_1).f0))).setCell ⟨gb621, 1, none⟩ (.string ((rd_T62 l0 x7_1).f1)))).cell? _ = some _ from hx623_0)); (try have hy623_1 := fun (n_ : Nat) => (show ((((w12.drewN n_).setCell ⟨gb621, 0, none⟩ (.string ((rd_T62 l0 x7_1).f0))).setCell ⟨gb621, 1, none⟩ (.string ((rd_T62 l0 x7_1).f1)))).cell? _ = some _ from hx623_1)); clear hn623_0; clear hn623_1; replace p623 := eq_true p623; replace q623 := eq_true q623)))
           go_roundg k1
           case measure => have := HK1.out; omega
           case rel => exact ⟨(wrap64 (x7_1 + 1)), zb5, H', ⟨by have := HK1.out; omega⟩, ⟨by repeat (first | (with_reducible first | exact HB.out | apply below_alloc | apply pw_below_drewN | apply below_drew1 | refine below_set ?_ GE621.out) | exact HB.out)⟩⟩
          ·rw [if_neg c11] at H
           have c11b0 : (Op.bytesLess (((rd_T62 l0 (ji8)).f0).toList) (((rd_T62 l0 x7_1).f0).toList)) = false := by simpa using c11
           clear c11
           obtain rfl := Option.some.inj H
           have p620 : 0 ≤ (x7_1 : Int) := of_decide_eq_true zb2
           have q620 : x7_1 < (l0.length : Int) := of_decide_eq_true zb2
           obtain ⟨ad620, e620, hx620_0, hx620_1⟩ := at_T62 HR0.out x7_1 p620 q620
           cases e620
           replace hx620_0 := (HB.out.cell (World.block_lt_of_cell? w _ hx620_0)).trans hx620_0
           replace hx620_1 := (HB.out.cell (World.block_lt_of_cell? w _ hx620_1)).trans hx620_1
           replace p620 := eq_true p620
           replace q620 := eq_true q620
           go_wp2_with (first | ((with_reducible refine gate_dst (N := 4) rfl ?_); refine box_event ?hg (N := 4) ?hd (cs := #[.string (⟨#[]⟩ : ByteArray), .string (⟨#[]⟩ : ByteArray)]) (t := 62) ?hr ?_; (case hd => rfl); (case hg => rfl); (case hr => first | (go_simp; done) | (go_simp; rfl)); intro gb621 hg w14 hbox hb; have n0_ := Aside0.mk (below_step zb0 hb); have n1_ := Aside0.mk (hbox); have n2_ := Aside0.mk ((by rw [hg]; exact (below_size zb0) : w.heap.size ≤ gb621)); have n3_ := Aside0.mk ((by rw [hg]; exact (below_size zb0) : w.heap.size ≤ gb621)); clear HB; have HB := n0_; have BK621 := n1_; have GW621 := n2_; have GE621 := n3_; clear n0_ n1_ n2_ n3_; clear hb hbox hg; obtain ⟨hcz15_0, hcz15_1, hfz15_0, hfz15_1⟩ := blk_2 BK621.out) | (go_at_call 75; (with_reducible refine (impl_sumLength.calls k1 ((rd_T62 l0 x7_1).f0) t622 _ A5.out).mono ?_); rintro e w' ⟨rfl, ⟨nd, rfl⟩⟩; (try first | exact ⟨rfl, _, World.drewN_drewN _ _ _⟩ | exact ⟨rfl, _, Eq.trans (World.drewN_drewN _ _ _) (congrArg (World.drewN _) (Nat.add_assoc _ _ _))⟩); have p623 : 0 ≤ ((ji8) : Int) := of_decide_eq_true zb2; have q623 : (ji8) < (l0.length : Int) := of_decide_eq_true zb2; obtain ⟨ad623, e623, hx623_0, hx623_1⟩ := at_T62 HR0.out (ji8) p623 q623; obtain rfl : ad620 = ad623 := (by injection e623); have hn623_0 : ad620.block ≠ gb621 := Nat.ne_of_lt (Nat.lt_of_lt_of_le (by have := World.block_lt_of_cell? _ _ hx623_0; first | rwa [add_block] at this | exact this) GW621.out); have hn623_1 : ad620.block ≠ gb621 := Nat.ne_of_lt (Nat.lt_of_lt_of_le (by have := World.block_lt_of_cell? _ _ hx623_0; first | rwa [add_block] at this | exact this) GW621.out); replace hx623_0 := (HB.out.cell (World.block_lt_of_cell? w _ hx623_0)).trans hx623_0; replace hx623_1 := (HB.out.cell (World.block_lt_of_cell? w _ hx623_1)).trans hx623_1; replace hx623_0 := (cell_far (p := ⟨gb621, 0, none⟩) (by first | (rw [add_block]; exact hn623_0) | (show (Addr.add _ _).block ≠ _; rw [add_block]; exact hn623_0) | exact hn623_0) (.string ((rd_T62 l0 x7_1).f0))).trans hx623_0; replace hx623_1 := (cell_far (p := ⟨gb621, 0, none⟩) (by first | (rw [add_block]; exact hn623_0) | (show (Addr.add _ _).block ≠ _; rw [add_block]; exact hn623_0) | exact hn623_0) (.string ((rd_T62 l0 x7_1).f0))).trans hx623_1; (try have hx623_0d := (cell_far (W := World.drewN _ nd) (p := ⟨gb621, 1, none⟩) (by first | (rw [add_block]; exact hn623_1) | (show (Addr.add _ _).block ≠ _; rw [add_block]; exact hn623_1) | exact hn623_1) (.string ((rd_T62 l0 x7_1).f1))).trans ((World.cell?_drewN _ nd _).trans hx623_0)); (try have hx623_1d := (cell_far (W := World.drewN _ nd) (p := ⟨gb621, 1, none⟩) (by first | (rw [add_block]; exact hn623_1) | (show (Addr.add _ _).block ≠ _; rw [add_block]; exact hn623_1) | exact hn623_1) (.string ((rd_T62 l0 x7_1).f1))).trans ((World.cell?_drewN _ nd _).trans hx623_1)); replace hx623_0 := (cell_far (p := ⟨gb621, 1, none⟩) (by first | (rw [add_block]; exact hn623_1) | (show (Addr.add _ _).block ≠ _; rw [add_block]; exact hn623_1) | exact hn623_1) (.string ((rd_T62 l0 x7_1).f1))).trans hx623_0; replace hx623_1 := (cell_far (p := ⟨gb621, 1, none⟩) (by first | (rw [add_block]; exact hn623_1) | (show (Addr.add _ _).block ≠ _; rw [add_block]; exact hn623_1) | exact hn623_1) (.string ((rd_T62 l0 x7_1).f1))).trans hx623_1; (try have hy623_0 := fun (n_ : Nat) => (show ((((w14.drewN n_).setCell ⟨gb621, 0, none⟩ (.string ((rd_T62 l0 x7_1).f0))).setCell ⟨gb621, 1, none⟩ (.string ((rd_T62 l0 x7_1).f1)))).cell? _ = some _ from hx623_0)); (try have hy623_1 := fun (n_ : Nat) => (show ((((w14.drewN n_).setCell ⟨gb621, 0, none⟩ (.string ((rd_T62 l0 x7_1).f0))).setCell ⟨gb621, 1, none⟩ (.string ((rd_T62 l0 x7_1).f1)))).cell? _ = some _ from hx623_1)); clear hn623_0; clear hn623_1; replace p623 := eq_true p623; replace q623 := eq_true q623))
           repeat (go_quiet (first | ((with_reducible refine gate_dst (N := 4) rfl ?_); refine box_event ?hg (N := 4) ?hd (cs := #[.string (⟨#[]⟩ : ByteArray), .string (⟨#[]⟩ : ByteArray)]) (t := 62) ?hr ?_; (case hd => rfl); (case hg => rfl); (case hr => first | (go_simp; done) | (go_simp; rfl)); intro gb621 hg w14 hbox hb; have n0_ := Aside0.mk (below_step zb0 hb); have n1_ := Aside0.mk (hbox); have n2_ := Aside0.mk ((by rw [hg]; exact (below_size zb0) : w.heap.size ≤ gb621)); have n3_ := Aside0.mk ((by rw [hg]; exact (below_size zb0) : w.heap.size ≤ gb621)); clear HB; have HB := n0_; have BK621 := n1_; have GW621 := n2_; have GE621 := n3_; clear n0_ n1_ n2_ n3_; clear hb hbox hg; obtain ⟨hcz15_0, hcz15_1, hfz15_0, hfz15_1⟩ := blk_2 BK621.out) | (go_at_call 75; (with_reducible refine (impl_sumLength.calls k1 ((rd_T62 l0 x7_1).f0) t622 _ A5.out).mono ?_); rintro e w' ⟨rfl, ⟨nd, rfl⟩⟩; (try first | exact ⟨rfl, _, World.drewN_drewN _ _ _⟩ | exact ⟨rfl, _, Eq.trans (World.drewN_drewN _ _ _) (congrArg (World.drewN _) (Nat.add_assoc _ _ _))⟩); have p623 : 0 ≤ ((ji8) : Int) := of_decide_eq_true zb2; have q623 : (ji8) < (l0.length : Int) := of_decide_eq_true zb2; obtain ⟨ad623, e623, hx623_0, hx623_1⟩ := at_T62 HR0.out (ji8) p623 q623; obtain rfl : ad620 = ad623 := (by injection e623); have hn623_0 : ad620.block ≠ gb621 := Nat.ne_of_lt (Nat.lt_of_lt_of_le (by have := World.block_lt_of_cell? _ _ hx623_0; first | rwa [add_block] at this | exact this) GW621.out); have hn623_1 : ad620.block ≠ gb621 := Nat.ne_of_lt (Nat.lt_of_lt_of_le (by have := World.block_lt_of_cell? _ _ hx623_0; first | rwa [add_block] at this | exact this) GW621.out); replace hx623_0 := (HB.out.cell (World.block_lt_of_cell? w _ hx623_0)).trans hx623_0; replace hx623_1 := (HB.out.cell (World.block_lt_of_cell? w _ hx623_1)).trans hx623_1; replace hx623_0 := (cell_far (p := ⟨gb621, 0, none⟩) (by first | (rw [add_block]; exact hn623_0) | (show (Addr.add _ _).block ≠ _; rw [add_block]; exact hn623_0) | exact hn623_0) (.string ((rd_T62 l0 x7_1).f0))).trans hx623_0; replace hx623_1 := (cell_far (p := ⟨gb621, 0, none⟩) (by first | (rw [add_block]; exact hn623_0) | (show (Addr.add _ _).block ≠ _; rw [add_block]; exact hn623_0) | exact hn623_0) (.string ((rd_T62 l0 x7_1).f0))).trans hx623_1; (try have hx623_0d := (cell_far (W := World.drewN _ nd) (p := ⟨gb621, 1, none⟩) (by first | (rw [add_block]; exact hn623_1) | (show (Addr.add _ _).block ≠ _; rw [add_block]; exact hn623_1) | exact hn623_1) (.string ((rd_T62 l0 x7_1).f1))).trans ((World.cell?_drewN _ nd _).trans hx623_0)); (try have hx623_1d := (cell_far (W := World.drewN _ nd) (p := ⟨gb621, 1, none⟩) (by first | (rw [add_block]; exact hn623_1) | (show (Addr.add _ _).block ≠ _; rw [add_block]; exact hn623_1) | exact hn623_1) (.string ((rd_T62 l0 x7_1).f1))).trans ((World.cell?_drewN _ nd _).trans hx623_1)); replace hx623_0 := (cell_far (p := ⟨gb621, 1, none⟩) (by first | (rw [add_block]; exact hn623_1) | (show (Addr.add _ _).block ≠ _; rw [add_block]; exact hn623_1) | exact hn623_1) (.string ((rd_T62 l0 x7_1).f1))).trans hx623_0; replace hx623_1 := (cell_far (p := ⟨gb621, 1, none⟩) (by first | (rw [add_block]; exact hn623_1) | (show (Addr.add _ _).block ≠ _; rw [add_block]; exact hn623_1) | exact hn623_1) (.string ((rd_T62 l0 x7_1).f1))).trans hx623_1; (try have hy623_0 := fun (n_ : Nat) => (show ((((w14.drewN n_).setCell ⟨gb621, 0, none⟩ (.string ((rd_T62 l0 x7_1).f0))).setCell ⟨gb621, 1, none⟩ (.string ((rd_T62 l0 x7_1).f1)))).cell? _ = some _ from hx623_0)); (try have hy623_1 := fun (n_ : Nat) => (show ((((w14.drewN n_).setCell ⟨gb621, 0, none⟩ (.string ((rd_T62 l0 x7_1).f0))).setCell ⟨gb621, 1, none⟩ (.string ((rd_T62 l0 x7_1).f1)))).cell? _ = some _ from hx623_1)); clear hn623_0; clear hn623_1; replace p623 := eq_true p623; replace q623 := eq_true q623)); try go_wp2_with (first | ((with_reducible refine gate_dst (N := 4) rfl ?_); refine box_event ?hg (N := 4) ?hd (cs := #[.string (⟨#[]⟩ : ByteArray), .string (⟨#[]⟩ : ByteArray)]) (t := 62) ?hr ?_; (case hd => rfl); (case hg => rfl); (case hr => first | (go_simp; done) | (go_simp; rfl)); intro gb621 hg w14 hbox hb; have n0_ := Aside0.mk (below_step zb0 hb); have n1_ := Aside0.mk (hbox); have n2_ := Aside0.mk ((by rw [hg]; exact (below_size zb0) : w.heap.size ≤ gb621)); have n3_ := Aside0.mk ((by rw [hg]; exact (below_size zb0) : w.heap.size ≤ gb621)); clear HB; have HB := n0_; have BK621 := n1_; have GW621 := n2_; have GE621 := n3_; clear n0_ n1_ n2_ n3_; clear hb hbox hg; obtain ⟨hcz15_0, hcz15_1, hfz15_0, hfz15_1⟩ := blk_2 BK621.out) | (go_at_call 75; (with_reducible refine (impl_sumLength.calls k1 ((rd_T62 l0 x7_1).f0) t622 _ A5.out).mono ?_); rintro e w' ⟨rfl, ⟨nd, rfl⟩⟩; (try first | exact ⟨rfl, _, World.drewN_drewN _ _ _⟩ | exact ⟨rfl, _, Eq.trans (World.drewN_drewN _ _ _) (congrArg (World.drewN _) (Nat.add_assoc _ _ _))⟩); have p623 : 0 ≤ ((ji8) : Int) := of_decide_eq_true zb2; have q623 : (ji8) < (l0.length : Int) := of_decide_eq_true zb2; obtain ⟨ad623, e623, hx623_0, hx623_1⟩ := at_T62 HR0.out (ji8) p623 q623; obtain rfl : ad620 = ad623 := (by injection e623); have hn623_0 : ad620.block ≠ gb621 := Nat.ne_of_lt (Nat.lt_of_lt_of_le (by have := World.block_lt_of_cell? _ _ hx623_0; first | rwa [add_block] at this | exact this) GW621.out); have hn623_1 : ad620.block ≠ gb621 := Nat.ne_of_lt (Nat.lt_of_lt_of_le (by have := World.block_lt_of_cell? _ _ hx623_0; first | rwa [add_block] at this | exact this) GW621.out); replace hx623_0 := (HB.out.cell (World.block_lt_of_cell? w _ hx623_0)).trans hx623_0; replace hx623_1 := (HB.out.cell (World.block_lt_of_cell? w _ hx623_1)).trans hx623_1; replace hx623_0 := (cell_far (p := ⟨gb621, 0, none⟩) (by first | (rw [add_block]; exact hn623_0) | (show (Addr.add _ _).block ≠ _; rw [add_block]; exact hn623_0) | exact hn623_0) (.string ((rd_T62 l0 x7_1).f0))).trans hx623_0; replace hx623_1 := (cell_far (p := ⟨gb621, 0, none⟩) (by first | (rw [add_block]; exact hn623_0) | (show (Addr.add _ _).block ≠ _; rw [add_block]; exact hn623_0) | exact hn623_0) (.string ((rd_T62 l0 x7_1).f0))).trans hx623_1; (try have hx623_0d := (cell_far (W := World.drewN _ nd) (p := ⟨gb621, 1, none⟩) (by first | (rw [add_block]; exact hn623_1) | (show (Addr.add _ _).block ≠ _; rw [add_block]; exact hn623_1) | exact hn623_1) (.string ((rd_T62 l0 x7_1).f1))).trans ((World.cell?_drewN _ nd _).trans hx623_0)); (try have hx623_1d := (cell_far (W := World.drewN _ nd) (p := ⟨gb621, 1, none⟩) (by first | (rw [add_block]; exact hn623_1) | (show (Addr.add _ _).block ≠ _; rw [add_block]; exact hn623_1) | exact hn623_1) (.string ((rd_T62 l0 x7_1).f1))).trans ((World.cell?_drewN _ nd _).trans hx623_1)); replace hx623_0 := (cell_far (p := ⟨gb621, 1, none⟩) (by first | (rw [add_block]; exact hn623_1) | (show (Addr.add _ _).block ≠ _; rw [add_block]; exact hn623_1) | exact hn623_1) (.string ((rd_T62 l0 x7_1).f1))).trans hx623_0; replace hx623_1 := (cell_far (p := ⟨gb621, 1, none⟩) (by first | (rw [add_block]; exact hn623_1) | (show (Addr.add _ _).block ≠ _; rw [add_block]; exact hn623_1) | exact hn623_1) (.string ((rd_T62 l0 x7_1).f1))).trans hx623_1; (try have hy623_0 := fun (n_ : Nat) => (show ((((w14.drewN n_).setCell ⟨gb621, 0, none⟩ (.string ((rd_T62 l0 x7_1).f0))).setCell ⟨gb621, 1, none⟩ (.string ((rd_T62 l0 x7_1).f1)))).cell? _ = some _ from hx623_0)); (try have hy623_1 := fun (n_ : Nat) => (show ((((w14.drewN n_).setCell ⟨gb621, 0, none⟩ (.string ((rd_T62 l0 x7_1).f0))).setCell ⟨gb621, 1, none⟩ (.string ((rd_T62 l0 x7_1).f1)))).cell? _ = some _ from hx623_1)); clear hn623_0; clear hn623_1; replace p623 := eq_true p623; replace q623 := eq_true q623)))
           go_ret
           exact ⟨by first | rfl | (simp [errW_none, errW_some] <;> rfl) | (simp only [← hji8]; first | rfl | (simp [errW_none, errW_some] <;> rfl)) | (simp [*, errW_none, errW_some] <;> rfl), by repeat (first | (with_reducible first | exact HB.out | apply below_alloc | apply pw_below_drewN | apply below_drew1 | refine below_set ?_ GE621.out) | exact HB.out)⟩
         ·rw [if_neg c10] at H
          exact absurd H (by simp)
        ·rw [if_neg c9] at H
         exact absurd H (by simp)
       ·rw [if_neg c7] at H
        have c7b0 : decide (0 < x7_1) = false := decide_eq_false c7
        clear c7
        have H' := Aside0.mk H
        clear H
        have p620 : 0 ≤ (x7_1 : Int) := of_decide_eq_true zb2
        have q620 : x7_1 < (l0.length : Int) := of_decide_eq_true zb2
        obtain ⟨ad620, e620, hx620_0, hx620_1⟩ := at_T62 HR0.out x7_1 p620 q620
        cases e620
        replace hx620_0 := (HB.out.cell (World.block_lt_of_cell? w _ hx620_0)).trans hx620_0
        replace hx620_1 := (HB.out.cell (World.block_lt_of_cell? w _ hx620_1)).trans hx620_1
        replace p620 := eq_true p620
        replace q620 := eq_true q620
        go_wp2_with (first | ((with_reducible refine gate_dst (N := 4) rfl ?_); refine box_event ?hg (N := 4) ?hd (cs := #[.string (⟨#[]⟩ : ByteArray), .string (⟨#[]⟩ : ByteArray)]) (t := 62) ?hr ?_; (case hd => rfl); (case hg => rfl); (case hr => first | (go_simp; done) | (go_simp; rfl)); intro gb621 hg w16 hbox hb; have n0_ := Aside0.mk (below_step zb0 hb); have n1_ := Aside0.mk (hbox); have n2_ := Aside0.mk ((by rw [hg]; exact (below_size zb0) : w.heap.size ≤ gb621)); have n3_ := Aside0.mk ((by rw [hg]; exact (below_size zb0) : w.heap.size ≤ gb621)); clear HB; have HB := n0_; have BK621 := n1_; have GW621 := n2_; have GE621 := n3_; clear n0_ n1_ n2_ n3_; clear hb hbox hg; obtain ⟨hcz17_0, hcz17_1, hfz17_0, hfz17_1⟩ := blk_2 BK621.out) | (go_at_call 75; (with_reducible refine (impl_sumLength.calls k1 ((rd_T62 l0 x7_1).f0) t622 _ A5.out).mono ?_); rintro e w' ⟨rfl, ⟨nd, rfl⟩⟩; (try first | exact ⟨rfl, _, World.drewN_drewN _ _ _⟩ | exact ⟨rfl, _, Eq.trans (World.drewN_drewN _ _ _) (congrArg (World.drewN _) (Nat.add_assoc _ _ _))⟩)))
        repeat (go_quiet (first | ((with_reducible refine gate_dst (N := 4) rfl ?_); refine box_event ?hg (N := 4) ?hd (cs := #[.string (⟨#[]⟩ : ByteArray), .string (⟨#[]⟩ : ByteArray)]) (t := 62) ?hr ?_; (case hd => rfl); (case hg => rfl); (case hr => first | (go_simp; done) | (go_simp; rfl)); intro gb621 hg w16 hbox hb; have n0_ := Aside0.mk (below_step zb0 hb); have n1_ := Aside0.mk (hbox); have n2_ := Aside0.mk ((by rw [hg]; exact (below_size zb0) : w.heap.size ≤ gb621)); have n3_ := Aside0.mk ((by rw [hg]; exact (below_size zb0) : w.heap.size ≤ gb621)); clear HB; have HB := n0_; have BK621 := n1_; have GW621 := n2_; have GE621 := n3_; clear n0_ n1_ n2_ n3_; clear hb hbox hg; obtain ⟨hcz17_0, hcz17_1, hfz17_0, hfz17_1⟩ := blk_2 BK621.out) | (go_at_call 75; (with_reducible refine (impl_sumLength.calls k1 ((rd_T62 l0 x7_1).f0) t622 _ A5.out).mono ?_); rintro e w' ⟨rfl, ⟨nd, rfl⟩⟩; (try first | exact ⟨rfl, _, World.drewN_drewN _ _ _⟩ | exact ⟨rfl, _, Eq.trans (World.drewN_drewN _ _ _) (congrArg (World.drewN _) (Nat.add_assoc _ _ _))⟩))); try go_wp2_with (first | ((with_reducible refine gate_dst (N := 4) rfl ?_); refine box_event ?hg (N := 4) ?hd (cs := #[.string (⟨#[]⟩ : ByteArray), .string (⟨#[]⟩ : ByteArray)]) (t := 62) ?hr ?_; (case hd => rfl); (case hg => rfl); (case hr => first | (go_simp; done) | (go_simp; rfl)); intro gb621 hg w16 hbox hb; have n0_ := Aside0.mk (below_step zb0 hb); have n1_ := Aside0.mk (hbox); have n2_ := Aside0.mk ((by rw [hg]; exact (below_size zb0) : w.heap.size ≤ gb621)); have n3_ := Aside0.mk ((by rw [hg]; exact (below_size zb0) : w.heap.size ≤ gb621)); clear HB; have HB := n0_; have BK621 := n1_; have GW621 := n2_; have GE621 := n3_; clear n0_ n1_ n2_ n3_; clear hb hbox hg; obtain ⟨hcz17_0, hcz17_1, hfz17_0, hfz17_1⟩ := blk_2 BK621.out) | (go_at_call 75; (with_reducible refine (impl_sumLength.calls k1 ((rd_T62 l0 x7_1).f0) t622 _ A5.out).mono ?_); rintro e w' ⟨rfl, ⟨nd, rfl⟩⟩; (try first | exact ⟨rfl, _, World.drewN_drewN _ _ _⟩ | exact ⟨rfl, _, Eq.trans (World.drewN_drewN _ _ _) (congrArg (World.drewN _) (Nat.add_assoc _ _ _))⟩))))
        go_roundg k1
        case measure => have := HK1.out; omega
        case rel => exact ⟨(wrap64 (x7_1 + 1)), zb5, H', ⟨by have := HK1.out; omega⟩, ⟨by repeat (first | (with_reducible first | exact HB.out | apply below_alloc | apply pw_below_drewN | apply below_drew1 | refine below_set ?_ GE621.out) | exact HB.out)⟩⟩
      ·rw [if_neg c6] at H
       have c6b0 : ((((rd_T62 l0 x7_1).f1).size : Int) == t622) = false := beq_eq_false_iff_ne.mpr c6
       have c6b1 : ((((rd_T62 l0 x7_1).f1).size : Int) != t622) = true := bne_iff_ne.mpr c6
       obtain rfl := Option.some.inj H
       have p620 : 0 ≤ (x7_1 : Int) := of_decide_eq_true zb2
       have q620 : x7_1 < (l0.length : Int) := of_decide_eq_true zb2
       obtain ⟨ad620, e620, hx620_0, hx620_1⟩ := at_T62 HR0.out x7_1 p620 q620
       cases e620
       replace hx620_0 := (HB.out.cell (World.block_lt_of_cell? w _ hx620_0)).trans hx620_0
       replace hx620_1 := (HB.out.cell (World.block_lt_of_cell? w _ hx620_1)).trans hx620_1
       replace p620 := eq_true p620
       replace q620 := eq_true q620
       go_wp2_with (first | ((with_reducible refine gate_dst (N := 4) rfl ?_); refine box_event ?hg (N := 4) ?hd (cs := #[.string (⟨#[]⟩ : ByteArray), .string (⟨#[]⟩ : ByteArray)]) (t := 62) ?hr ?_; (case hd => rfl); (case hg => rfl); (case hr => first | (go_simp; done) | (go_simp; rfl)); intro gb621 hg w18 hbox hb; have n0_ := Aside0.mk (below_step zb0 hb); have n1_ := Aside0.mk (hbox); have n2_ := Aside0.mk ((by rw [hg]; exact (below_size zb0) : w.heap.size ≤ gb621)); have n3_ := Aside0.mk ((by rw [hg]; exact (below_size zb0) : w.heap.size ≤ gb621)); clear HB; have HB := n0_; have BK621 := n1_; have GW621 := n2_; have GE621 := n3_; clear n0_ n1_ n2_ n3_; clear hb hbox hg; obtain ⟨hcz19_0, hcz19_1, hfz19_0, hfz19_1⟩ := blk_2 BK621.out) | (go_at_call 75; (with_reducible refine (impl_sumLength.calls k1 ((rd_T62 l0 x7_1).f0) t622 _ A5.out).mono ?_); rintro e w' ⟨rfl, ⟨nd, rfl⟩⟩; (try first | exact ⟨rfl, _, World.drewN_drewN _ _ _⟩ | exact ⟨rfl, _, Eq.trans (World.drewN_drewN _ _ _) (congrArg (World.drewN _) (Nat.add_assoc _ _ _))⟩)))
       repeat (go_quiet (first | ((with_reducible refine gate_dst (N := 4) rfl ?_); refine box_event ?hg (N := 4) ?hd (cs := #[.string (⟨#[]⟩ : ByteArray), .string (⟨#[]⟩ : ByteArray)]) (t := 62) ?hr ?_; (case hd => rfl); (case hg => rfl); (case hr => first | (go_simp; done) | (go_simp; rfl)); intro gb621 hg w18 hbox hb; have n0_ := Aside0.mk (below_step zb0 hb); have n1_ := Aside0.mk (hbox); have n2_ := Aside0.mk ((by rw [hg]; exact (below_size zb0) : w.heap.size ≤ gb621)); have n3_ := Aside0.mk ((by rw [hg]; exact (below_size zb0) : w.heap.size ≤ gb621)); clear HB; have HB := n0_; have BK621 := n1_; have GW621 := n2_; have GE621 := n3_; clear n0_ n1_ n2_ n3_; clear hb hbox hg; obtain ⟨hcz19_0, hcz19_1, hfz19_0, hfz19_1⟩ := blk_2 BK621.out) | (go_at_call 75; (with_reducible refine (impl_sumLength.calls k1 ((rd_T62 l0 x7_1).f0) t622 _ A5.out).mono ?_); rintro e w' ⟨rfl, ⟨nd, rfl⟩⟩; (try first | exact ⟨rfl, _, World.drewN_drewN _ _ _⟩ | exact ⟨rfl, _, Eq.trans (World.drewN_drewN _ _ _) (congrArg (World.drewN _) (Nat.add_assoc _ _ _))⟩))); try go_wp2_with (first | ((with_reducible refine gate_dst (N := 4) rfl ?_); refine box_event ?hg (N := 4) ?hd (cs := #[.string (⟨#[]⟩ : ByteArray), .string (⟨#[]⟩ : ByteArray)]) (t := 62) ?hr ?_; (case hd => rfl); (case hg => rfl); (case hr => first | (go_simp; done) | (go_simp; rfl)); intro gb621 hg w18 hbox hb; have n0_ := Aside0.mk (below_step zb0 hb); have n1_ := Aside0.mk (hbox); have n2_ := Aside0.mk ((by rw [hg]; exact (below_size zb0) : w.heap.size ≤ gb621)); have n3_ := Aside0.mk ((by rw [hg]; exact (below_size zb0) : w.heap.size ≤ gb621)); clear HB; have HB := n0_; have BK621 := n1_; have GW621 := n2_; have GE621 := n3_; clear n0_ n1_ n2_ n3_; clear hb hbox hg; obtain ⟨hcz19_0, hcz19_1, hfz19_0, hfz19_1⟩ := blk_2 BK621.out) | (go_at_call 75; (with_reducible refine (impl_sumLength.calls k1 ((rd_T62 l0 x7_1).f0) t622 _ A5.out).mono ?_); rintro e w' ⟨rfl, ⟨nd, rfl⟩⟩; (try first | exact ⟨rfl, _, World.drewN_drewN _ _ _⟩ | exact ⟨rfl, _, Eq.trans (World.drewN_drewN _ _ _) (congrArg (World.drewN _) (Nat.add_assoc _ _ _))⟩))))
       go_ret
       exact ⟨zb3, by repeat (first | (with_reducible first | exact HB.out | apply below_alloc | apply pw_below_drewN | apply below_drew1 | refine below_set ?_ GE621.out) | exact HB.out)⟩
     ·rw [if_neg c4] at H
      exact absurd H (by simp)
    ·rw [if_neg c3] at H
     exact absurd H (by simp)
   ·rw [if_neg c2] at H
    have c2b0 : decide (x7_1 < (l0.length : Int)) = false := decide_eq_false c2
    clear c2
    obtain rfl := Option.some.inj H
    go_wp2
    repeat (go_quiet (fail); try go_wp2)
    go_ret
    exact zs3
end Go.Proofs.YtbepbfibanmhoaaGreatDoor.G

end
