-- PRINTED by print.py (a twelfth state) out of the translation. Not trusted: Lean checks it.
import Derived.Test.YtgfaphlpkjikkaaDoorG0
import Derived.Test.YtgfaphlpkjikkaaDoorGspecRangeOk
namespace Go.Proofs.YtgfaphlpkjikkaaDoor.G
open Go.RowKit Go.Proofs.YtgfaphlpkjikkaaDoorW.PrintWords Go.Proofs.YtgfaphlpkjikkaaDoorW.PrintLast Go.Proofs.YtgfaphlpkjikkaaDoorW.PrintMore
attribute [local go_sem] max2_int min2_int max_two min_two max_three min_three max_four min_four   -- for this text's walks alone
attribute [local go_sem high] Go.Proofs.YtgfaphlpkjikkaaDoor.G.str_gtr Go.Proofs.YtgfaphlpkjikkaaDoor.G.str_leq Go.Proofs.YtgfaphlpkjikkaaDoor.G.str_geq
set_option linter.unusedVariables false
set_option linter.unusedSimpArgs false

/-! ### spec_RangeText: function 69 -/
mutual
def spec_RangeText.l0 : Nat → List (S88) → ByteArray → Int → Option (ByteArray)
  | 0, _, _, _ => none
  | k + 1, x0, x3, x4 => if x4 < (x0.length : Int) then ((spec_RangeOk.f k x0).bind fun t817 => (if t817 = true then (if x4 > 0 then (if x3.size + 4 ≤ 9223372036854775807 then (spec_RangeText.j1 k x0 (x3 ++ (⟨#[32, 124, 124, 32]⟩ : ByteArray)) x4) else (none)) else (spec_RangeText.j1 k x0 x3 x4)) else (some (⟨#[]⟩ : ByteArray)))) else (some x3)
def spec_RangeText.j1 : Nat → List (S88) → ByteArray → Int → Option (ByteArray)
  | 0, _, _, _ => none
  | k + 1, x0, x3, x4 => if 0 ≤ x4 then (if x4 < (x0.length : Int) then (if ((rd_T88 x0 x4).f0).toList = ([] : List UInt8) then (spec_RangeText.j2 k x0 x3 x4 (((rd_T88 x0 x4).f1).toList == ([] : List UInt8))) else (spec_RangeText.j2 k x0 x3 x4 false)) else (none)) else (none)
def spec_RangeText.j2 : Nat → List (S88) → ByteArray → Int → Bool → Option (ByteArray)
  | 0, _, _, _, _ => none
  | k + 1, x0, x3, x4, x33 => if x33 = true then (if x3.size + 1 ≤ 9223372036854775807 then (spec_RangeText.l0 k x0 (x3 ++ (⟨#[42]⟩ : ByteArray)) (wrap64 (x4 + 1))) else (none)) else (if 0 ≤ x4 then (if x4 < (x0.length : Int) then (if ((rd_T88 x0 x4).f1).toList = ([] : List UInt8) then (if x3.size + 2 ≤ 9223372036854775807 then (if (x3 ++ (⟨#[62, 61]⟩ : ByteArray)).size + ((rd_T88 x0 x4).f0).size ≤ 9223372036854775807 then (spec_RangeText.l0 k x0 ((x3 ++ (⟨#[62, 61]⟩ : ByteArray)) ++ ((rd_T88 x0 x4).f0)) (wrap64 (x4 + 1))) else (none)) else (none)) else (if ((rd_T88 x0 x4).f0).toList = ([] : List UInt8) then (if x3.size + 1 ≤ 9223372036854775807 then (if (x3 ++ (⟨#[60]⟩ : ByteArray)).size + ((rd_T88 x0 x4).f1).size ≤ 9223372036854775807 then (spec_RangeText.l0 k x0 ((x3 ++ (⟨#[60]⟩ : ByteArray)) ++ ((rd_T88 x0 x4).f1)) (wrap64 (x4 + 1))) else (none)) else (none)) else (if x3.size + 2 ≤ 9223372036854775807 then (if (x3 ++ (⟨#[62, 61]⟩ : ByteArray)).size + ((rd_T88 x0 x4).f0).size ≤ 9223372036854775807 then (if ((x3 ++ (⟨#[62, 61]⟩ : ByteArray)) ++ ((rd_T88 x0 x4).f0)).size + 2 ≤ 9223372036854775807 then (if (((x3 ++ (⟨#[62, 61]⟩ : ByteArray)) ++ ((rd_T88 x0 x4).f0)) ++ (⟨#[32, 60]⟩ : ByteArray)).size + ((rd_T88 x0 x4).f1).size ≤ 9223372036854775807 then (spec_RangeText.l0 k x0 ((((x3 ++ (⟨#[62, 61]⟩ : ByteArray)) ++ ((rd_T88 x0 x4).f0)) ++ (⟨#[32, 60]⟩ : ByteArray)) ++ ((rd_T88 x0 x4).f1)) (wrap64 (x4 + 1))) else (none)) else (none)) else (none)) else (none)))) else (none)) else (none))
end
def spec_RangeText.f (k : Nat) (l0 : List (S88)) : Option (ByteArray) := spec_RangeText.l0 k l0 (⟨#[]⟩ : ByteArray) 0
theorem spec_RangeText.mono_l : ∀ k, (∀ y0 y1 y2, LeO (spec_RangeText.l0 k y0 y1 y2) (spec_RangeText.l0 (k + 1) y0 y1 y2)) ∧ (∀ y0 y1 y2, LeO (spec_RangeText.j1 k y0 y1 y2) (spec_RangeText.j1 (k + 1) y0 y1 y2)) ∧ (∀ y0 y1 y2 y3, LeO (spec_RangeText.j2 k y0 y1 y2 y3) (spec_RangeText.j2 (k + 1) y0 y1 y2 y3))
  | 0 => ⟨fun _ _ _ r h => by simp [spec_RangeText.l0] at h, fun _ _ _ r h => by simp [spec_RangeText.j1] at h, fun _ _ _ _ r h => by simp [spec_RangeText.j2] at h⟩
  | k + 1 => by
    obtain ⟨ih0, ih1, ih2⟩ := spec_RangeText.mono_l k
    refine ⟨?_, ?_, ?_⟩
    · intro y0 y1 y2
      unfold spec_RangeText.l0
      repeat' first
      | (with_reducible exact ih0 _ _ _)
      | (with_reducible exact ih1 _ _ _)
      | (with_reducible exact ih2 _ _ _ _)
      | (with_reducible exact spec_RangeOk.mono _ _)
      | (with_reducible exact LeO.refl _)
      | (with_reducible exact LeO.none _)
      | (with_reducible refine LeO.ite ?_ ?_)
      | (with_reducible refine LeO.bind ?_ (fun _ => ?_))
      | exact ih0 _ _ _
      | exact ih1 _ _ _
      | exact ih2 _ _ _ _
      | exact spec_RangeOk.mono _ _
      | exact LeO.none _
      | refine LeO.ite ?_ ?_
      | refine LeO.bind ?_ (fun _ => ?_)
    · intro y0 y1 y2
      unfold spec_RangeText.j1
      repeat' first
      | (with_reducible exact ih0 _ _ _)
      | (with_reducible exact ih1 _ _ _)
      | (with_reducible exact ih2 _ _ _ _)
      | (with_reducible exact spec_RangeOk.mono _ _)
      | (with_reducible exact LeO.refl _)
      | (with_reducible exact LeO.none _)
      | (with_reducible refine LeO.ite ?_ ?_)
      | (with_reducible refine LeO.bind ?_ (fun _ => ?_))
      | exact ih0 _ _ _
      | exact ih1 _ _ _
      | exact ih2 _ _ _ _
      | exact spec_RangeOk.mono _ _
      | exact LeO.none _
      | refine LeO.ite ?_ ?_
      | refine LeO.bind ?_ (fun _ => ?_)
    · intro y0 y1 y2 y3
      unfold spec_RangeText.j2
      repeat' first
      | (with_reducible exact ih0 _ _ _)
      | (with_reducible exact ih1 _ _ _)
      | (with_reducible exact ih2 _ _ _ _)
      | (with_reducible exact spec_RangeOk.mono _ _)
      | (with_reducible exact LeO.refl _)
      | (with_reducible exact LeO.none _)
      | (with_reducible refine LeO.ite ?_ ?_)
      | (with_reducible refine LeO.bind ?_ (fun _ => ?_))
      | exact ih0 _ _ _
      | exact ih1 _ _ _
      | exact ih2 _ _ _ _
      | exact spec_RangeOk.mono _ _
      | exact LeO.none _
      | refine LeO.ite ?_ ?_
      | refine LeO.bind ?_ (fun _ => ?_)
theorem spec_RangeText.mono : ∀ a0 k, LeO (spec_RangeText.f k a0) (spec_RangeText.f (k + 1) a0) := by
  intro a0 k
  obtain ⟨ih0, ih1, ih2⟩ := spec_RangeText.mono_l k
  unfold spec_RangeText.f
  repeat' first
      | (with_reducible exact ih0 _ _ _)
      | (with_reducible exact ih1 _ _ _)
      | (with_reducible exact ih2 _ _ _ _)
      | (with_reducible exact spec_RangeOk.mono _ _)
      | (with_reducible exact LeO.refl _)
      | (with_reducible exact LeO.none _)
      | (with_reducible refine LeO.ite ?_ ?_)
      | (with_reducible refine LeO.bind ?_ (fun _ => ?_))
      | exact ih0 _ _ _
      | exact ih1 _ _ _
      | exact ih2 _ _ _ _
      | exact spec_RangeOk.mono _ _
      | exact LeO.none _
      | refine LeO.ite ?_ ?_
      | refine LeO.bind ?_ (fun _ => ?_)
set_option maxHeartbeats 8000000 in
set_option maxRecDepth 100000 in
theorem spec_RangeText.calls (k : Nat) (A0 : Option Addr) (c0 : Nat) (l0 : List (S88)) (r : ByteArray) (w : World) (hr0 : Kd.C k88 w A0 l0.length l0) (hc0 : l0.length ≤ c0) (h : spec_RangeText.f k l0 = some r) :
    Calls Tryd.prog 69 #[.slice A0 l0.length c0] w fun e w' => e = .returned (.string r) ∧ Below w.heap.size w w' := by
  have HR0 := Aside0.mk hr0
  have HC0 := Aside0.mk hc0
  clear hr0 hc0
  have HB := Aside0.mk (Below.refl w.heap.size w)
  have H : (spec_RangeText.l0 k l0 (⟨#[]⟩ : ByteArray) 0) = some r := h
  clear h
  have H' := Aside0.mk H
  clear H
  go_enter Tryd.func69, Tryd.ntmps69
  go_wp2
  repeat (go_quiet (fail); try go_wp2)
  go_loopg [3, 4] k (fun kq v3 v4 w' => ∃ (x3_1 : ByteArray) (x4_1 : Int), v3 = .string x3_1 ∧ v4 = .int .i64 x4_1 ∧ Aside0 (spec_RangeText.l0 kq l0 x3_1 x4_1 = some r) ∧ Aside0 (kq ≤ k) ∧ Aside0 (Below w.heap.size w w'))
  case atStart => exact ⟨((⟨#[]⟩ : ByteArray)), (0), (by first | rfl | (simp; done) | (simp [*]; done) | (simp; exact isEmpty_ne _)), (by first | rfl | (simp; done) | (simp [*]; done) | (simp; exact isEmpty_ne _)), H', ⟨Nat.le_refl _⟩, ⟨by repeat (first | (with_reducible first | exact HB.out | apply below_alloc | apply pw_below_drewN | apply below_drew1) | exact HB.out)⟩⟩
  case round =>
    clear H'
    obtain ⟨x3_1, x4_1, rfl, rfl, HA, HK1, HB⟩ := hrel
    cases gk with
    | zero => exact absurd HA.out (by simp [spec_RangeText.l0])
    | succ k1 =>
      have H := HA.out
      clear HA
      simp only [spec_RangeText.l0] at H
      by_cases c2 : x4_1 < (l0.length : Int)
      · rw [if_pos c2] at H
        have c2b0 : decide (x4_1 < (l0.length : Int)) = true := decide_eq_true c2
        clear c2
        replace H := Option.bind_eq_some_iff.mp H
        obtain ⟨t817, A30, H⟩ := H
        replace H : (if t817 = true then (if x4_1 > 0 then (if x3_1.size + 4 ≤ 9223372036854775807 then (spec_RangeText.j1 k1 l0 (x3_1 ++ (⟨#[32, 124, 124, 32]⟩ : ByteArray)) x4_1) else (none)) else (spec_RangeText.j1 k1 l0 x3_1 x4_1)) else (some (⟨#[]⟩ : ByteArray))) = some r := H
        have A3 := Aside0.mk A30
        clear A30
        by_cases c4 : t817 = true
        · subst c4
          have H1 : (if x4_1 > 0 then (if x3_1.size + 4 ≤ 9223372036854775807 then (spec_RangeText.j1 k1 l0 (x3_1 ++ (⟨#[32, 124, 124, 32]⟩ : ByteArray)) x4_1) else (none)) else (spec_RangeText.j1 k1 l0 x3_1 x4_1)) = some r := by rw [if_pos rfl] at H; exact H
          clear H
          have H := H1
          clear H1
          have HC5 := Aside0.mk H
          clear H
          go_upto_if 15 with (first | (go_at_call 65; (with_reducible refine (spec_RangeOk.calls k1 _ _ l0 true _ ?side1 ?side2 A3.out).mono ?_); (case side1 => repeat (first | exact (Kd.C_below HR0.out HB.out) | (with_reducible refine Kd.C_alloc ?_ _) | (with_reducible refine Kd.C_drewN ?_ _) | (with_reducible refine Kd.C_drew ?_))); (case side2 => exact HC0.out); rintro e w6 ⟨rfl, hb⟩; have n0_ := Aside0.mk (below_step (by repeat (first | (with_reducible first | exact HB.out | apply below_alloc | apply pw_below_drewN | apply below_drew1) | exact HB.out)) hb); clear HB; have HB := n0_; clear n0_; (try clear hb); (try clear hb2); (try clear hk); (try clear hi)))
          repeat (go_quiet (first | (go_at_call 65; (with_reducible refine (spec_RangeOk.calls k1 _ _ l0 true _ ?side1 ?side2 A3.out).mono ?_); (case side1 => repeat (first | exact (Kd.C_below HR0.out HB.out) | (with_reducible refine Kd.C_alloc ?_ _) | (with_reducible refine Kd.C_drewN ?_ _) | (with_reducible refine Kd.C_drew ?_))); (case side2 => exact HC0.out); rintro e w6 ⟨rfl, hb⟩; have n0_ := Aside0.mk (below_step (by repeat (first | (with_reducible first | exact HB.out | apply below_alloc | apply pw_below_drewN | apply below_drew1) | exact HB.out)) hb); clear HB; have HB := n0_; clear n0_; (try clear hb); (try clear hb2); (try clear hk); (try clear hi))); go_upto_if 15 with (first | (go_at_call 65; (with_reducible refine (spec_RangeOk.calls k1 _ _ l0 true _ ?side1 ?side2 A3.out).mono ?_); (case side1 => repeat (first | exact (Kd.C_below HR0.out HB.out) | (with_reducible refine Kd.C_alloc ?_ _) | (with_reducible refine Kd.C_drewN ?_ _) | (with_reducible refine Kd.C_drew ?_))); (case side2 => exact HC0.out); rintro e w6 ⟨rfl, hb⟩; have n0_ := Aside0.mk (below_step (by repeat (first | (with_reducible first | exact HB.out | apply below_alloc | apply pw_below_drewN | apply below_drew1) | exact HB.out)) hb); clear HB; have HB := n0_; clear n0_; (try clear hb); (try clear hb2); (try clear hk); (try clear hi))))
          (try simp only [Act.put, List.setIfInBounds_toArray, List.set_cons_zero, List.set_cons_succ])
          go_cut [3] (fun v3 wc => ∃ (kq : Nat) (x3_4 : ByteArray), v3 = .string x3_4 ∧ Aside0 (spec_RangeText.j1 kq l0 x3_4 x4_1 = some r) ∧ Aside0 (kq ≤ k1) ∧ Aside0 (Below w.heap.size w wc))
          case first =>
            have H := HC5.out
            clear HC5
            by_cases c7 : x4_1 > 0
            · rw [if_pos c7] at H
              have c7b0 : decide (0 < x4_1) = true := decide_eq_true c7
              clear c7
              (first | rw [c7b0] | (simp only [i64_w, i32_w]; rw [c7b0]) | skip)
              by_cases c8 : x3_1.size + 4 ≤ 9223372036854775807
              · rw [if_pos c8] at H
                have c8b0 := eq_true c8
                have c8b1 : decide (x3_1.size + 4 ≤ 9223372036854775807) = true := decide_eq_true c8
                try have c8b2 : (9223372036854775807 < x3_1.size + 4) = False := eq_false (Nat.not_lt.2 c8)
                obtain ⟨js9, hjs9⟩ : ∃ j_ : ByteArray, (x3_1 ++ (⟨#[32, 124, 124, 32]⟩ : ByteArray)) = j_ := ⟨_, rfl⟩
                replace H : (spec_RangeText.j1 k1 l0 js9 x4_1) = some r := by first | (rw [hjs9] at H; exact H) | (simp only [hjs9] at H ⊢; exact H)
                have H' := Aside0.mk H
                clear H
                go_wp2
                repeat (go_quiet (fail); try go_wp2)
                go_meet
                case rel => exact ⟨_, (js9), (by first | rfl | (simp; done) | (simp only [← hjs9] <;> (first | rfl | simp)) | (simp [*]; done)), H', ⟨by have := HK1.out; first | omega | exact Nat.le_refl _⟩, ⟨by repeat (first | (with_reducible first | exact HB.out | apply below_alloc | apply pw_below_drewN | apply below_drew1) | exact HB.out)⟩⟩
              · rw [if_neg c8] at H
                exact absurd H (by simp)
            · rw [if_neg c7] at H
              have c7b0 : decide (0 < x4_1) = false := decide_eq_false c7
              clear c7
              (first | rw [c7b0] | (simp only [i64_w, i32_w]; rw [c7b0]) | skip)
              have H' := Aside0.mk H
              clear H
              go_wp2
              repeat (go_quiet (fail); try go_wp2)
              go_meet
              case rel => exact ⟨_, (x3_1), (by first | rfl | (simp; done) | (simp [*]; done) | (simp; exact isEmpty_ne _)), H', ⟨by have := HK1.out; first | omega | exact Nat.le_refl _⟩, ⟨by repeat (first | (with_reducible first | exact HB.out | apply below_alloc | apply pw_below_drewN | apply below_drew1) | exact HB.out)⟩⟩
          case rest =>
            clear HC5
            try clear c2
            try clear c2b0
            try clear p2
            try clear c4
            try clear c6
            try clear c7
            try clear c7b0
            try clear c8
            try clear c8b0
            try clear c8b1
            try clear c8b2
            obtain ⟨kq, x3_4, rfl, HA, HJ4, HB⟩ := hcut
            cases kq with
            | zero => exact absurd HA.out (by simp [spec_RangeText.j1])
            | succ kj4 =>
              have H := HA.out
              clear HA
              simp only [spec_RangeText.j1] at H
              have HC10 := Aside0.mk H
              clear H
              go_upto_region 10 with (fail)
              repeat (go_quiet (fail); go_upto_region 10 with (fail))
              go_cut [33] (fun v33 wc => ∃ (kq : Nat) (x33_9 : Bool), v33 = .bool x33_9 ∧ Aside0 (spec_RangeText.j2 kq l0 x3_4 x4_1 x33_9 = some r) ∧ Aside0 (kq ≤ kj4) ∧ Aside0 (Below w.heap.size w wc))
              case first =>
                have H := HC10.out
                clear HC10
                by_cases c11 : 0 ≤ x4_1
                · rw [if_pos c11] at H
                  have c11b0 : decide (0 ≤ x4_1) = true := decide_eq_true c11
                  clear c11
                  (first | rw [c11b0] | (simp only [i64_w, i32_w]; rw [c11b0]) | skip)
                  by_cases c12 : x4_1 < (l0.length : Int)
                  · rw [if_pos c12] at H
                    have c12b0 : decide (x4_1 < (l0.length : Int)) = true := decide_eq_true c12
                    clear c12
                    by_cases c13 : ((rd_T88 l0 x4_1).f0).toList = ([] : List UInt8)
                    · rw [if_pos c13] at H
                      have c13b0 : (((rd_T88 l0 x4_1).f0).toList == ([] : List UInt8)) = true := beq_iff_eq.mpr c13
                      have c13b1 : (((rd_T88 l0 x4_1).f0).toList != ([] : List UInt8)) = false := bne_eq_false_iff_eq.mpr c13
                      clear c13
                      have H' := Aside0.mk H
                      clear H
                      have p818 : 0 ≤ (x4_1 : Int) := of_decide_eq_true (by first | (with_reducible assumption) | assumption)
                      have q818 : x4_1 < (l0.length : Int) := of_decide_eq_true (by first | (with_reducible assumption) | assumption)
                      obtain ⟨ad818, e818, hx818_0, hx818_1⟩ := at_T88 HR0.out x4_1 p818 q818
                      cases e818
                      replace hx818_0 := (HB.out.cell (World.block_lt_of_cell? w _ hx818_0)).trans hx818_0
                      replace hx818_1 := (HB.out.cell (World.block_lt_of_cell? w _ hx818_1)).trans hx818_1
                      replace p818 := eq_true p818
                      replace q818 := eq_true q818
                      have p819 : 0 ≤ (x4_1 : Int) := of_decide_eq_true (by first | (with_reducible assumption) | assumption)
                      have q819 : x4_1 < (l0.length : Int) := of_decide_eq_true (by first | (with_reducible assumption) | assumption)
                      obtain ⟨ad819, e819, hx819_0, hx819_1⟩ := at_T88 HR0.out x4_1 p819 q819
                      obtain rfl : ad818 = ad819 := (by injection e819)
                      replace hx819_0 := (HB.out.cell (World.block_lt_of_cell? w _ hx819_0)).trans hx819_0
                      replace hx819_1 := (HB.out.cell (World.block_lt_of_cell? w _ hx819_1)).trans hx819_1
                      replace p819 := eq_true p819
                      replace q819 := eq_true q819
                      go_wp2
                      repeat (go_quiet (fail); try go_wp2)
                      go_meet
                      case rel => exact ⟨_, ((((rd_T88 l0 x4_1).f1).toList == ([] : List UInt8))), (by first | rfl | (simp; done) | (simp [*]; done) | (simp; exact isEmpty_ne _)), H', ⟨by have := HK1.out; have := HJ4.out; first | omega | exact Nat.le_refl _⟩, ⟨by repeat (first | (with_reducible first | exact HB.out | apply below_alloc | apply pw_below_drewN | apply below_drew1) | exact HB.out)⟩⟩
                    · rw [if_neg c13] at H
                      have c13b0 : (((rd_T88 l0 x4_1).f0).toList == ([] : List UInt8)) = false := beq_eq_false_iff_ne.mpr c13
                      have c13b1 : (((rd_T88 l0 x4_1).f0).toList != ([] : List UInt8)) = true := bne_iff_ne.mpr c13
                      have H' := Aside0.mk H
                      clear H
                      have p818 : 0 ≤ (x4_1 : Int) := of_decide_eq_true (by first | (with_reducible assumption) | assumption)
                      have q818 : x4_1 < (l0.length : Int) := of_decide_eq_true (by first | (with_reducible assumption) | assumption)
                      obtain ⟨ad818, e818, hx818_0, hx818_1⟩ := at_T88 HR0.out x4_1 p818 q818
                      cases e818
                      replace hx818_0 := (HB.out.cell (World.block_lt_of_cell? w _ hx818_0)).trans hx818_0
                      replace hx818_1 := (HB.out.cell (World.block_lt_of_cell? w _ hx818_1)).trans hx818_1
                      replace p818 := eq_true p818
                      replace q818 := eq_true q818
                      go_wp2
                      repeat (go_quiet (fail); try go_wp2)
                      go_meet
                      case rel => exact ⟨_, (false), (by first | rfl | (simp; done) | (simp [*]; done) | (simp; exact isEmpty_ne _)), H', ⟨by have := HK1.out; have := HJ4.out; first | omega | exact Nat.le_refl _⟩, ⟨by repeat (first | (with_reducible first | exact HB.out | apply below_alloc | apply pw_below_drewN | apply below_drew1) | exact HB.out)⟩⟩
                  · rw [if_neg c12] at H
                    exact absurd H (by simp)
                · rw [if_neg c11] at H
                  exact absurd H (by simp)
              case rest =>
                clear HC10
                try clear c1
                try clear c2
                try clear c2b0
                try clear p2
                try clear c4
                try clear c6
                try clear c7
                try clear c7b0
                try clear c8
                try clear c8b0
                try clear c8b1
                try clear c8b2
                try clear p8
                try clear q8
                try clear hx8
                try clear c11
                try clear c11b0
                try clear c12
                try clear c12b0
                try clear c13
                try clear c13b0
                try clear c13b1
                try clear hx818_0
                try clear hx818_1
                try clear hx819_0
                try clear hx819_1
                try clear p2
                try clear p818
                try clear p819
                try clear q818
                try clear q819
                obtain ⟨kq, x33_9, rfl, HA, HJ9, HB⟩ := hcut
                cases kq with
                | zero => exact absurd HA.out (by simp [spec_RangeText.j2])
                | succ kj9 =>
                  have H := HA.out
                  clear HA
                  simp only [spec_RangeText.j2] at H
                  by_cases c14 : x33_9 = true
                  · subst c14
                    have H1 : (if x3_4.size + 1 ≤ 9223372036854775807 then (spec_RangeText.l0 kj9 l0 (x3_4 ++ (⟨#[42]⟩ : ByteArray)) (wrap64 (x4_1 + 1))) else (none)) = some r := by rw [if_pos rfl] at H; exact H
                    clear H
                    have H := H1
                    clear H1
                    by_cases c15 : x3_4.size + 1 ≤ 9223372036854775807
                    · rw [if_pos c15] at H
                      have c15b0 := eq_true c15
                      have c15b1 : decide (x3_4.size + 1 ≤ 9223372036854775807) = true := decide_eq_true c15
                      try have c15b2 : (9223372036854775807 < x3_4.size + 1) = False := eq_false (Nat.not_lt.2 c15)
                      obtain ⟨js16, hjs16⟩ : ∃ j_ : ByteArray, (x3_4 ++ (⟨#[42]⟩ : ByteArray)) = j_ := ⟨_, rfl⟩
                      replace H : (spec_RangeText.l0 kj9 l0 js16 (wrap64 (x4_1 + 1))) = some r := by first | (rw [hjs16] at H; exact H) | (simp only [hjs16] at H ⊢; exact H)
                      have H' := Aside0.mk H
                      clear H
                      go_wp2
                      repeat (go_quiet (fail); try go_wp2)
                      go_roundg kj9
                      case measure => have := HK1.out; have := HJ4.out; have := HJ9.out; omega
                      case rel => exact ⟨(js16), (wrap64 (x4_1 + 1)), (by first | rfl | (simp; done) | (simp only [← hjs16] <;> (first | rfl | simp)) | (simp [*]; done)), (by first | rfl | (simp; done) | (simp [*]; done) | (simp; exact isEmpty_ne _)), H', ⟨by have := HK1.out; have := HJ4.out; have := HJ9.out; omega⟩, ⟨by repeat (first | (with_reducible first | exact HB.out | apply below_alloc | apply pw_below_drewN | apply below_drew1) | exact HB.out)⟩⟩
                    · rw [if_neg c15] at H
                      exact absurd H (by simp)
                  · replace c14 := Bool.eq_false_iff.mpr c14
                    subst c14
                    have H1 : (if 0 ≤ x4_1 then (if x4_1 < (l0.length : Int) then (if ((rd_T88 l0 x4_1).f1).toList = ([] : List UInt8) then (if x3_4.size + 2 ≤ 9223372036854775807 then (if (x3_4 ++ (⟨#[62, 61]⟩ : ByteArray)).size + ((rd_T88 l0 x4_1).f0).size ≤ 9223372036854775807 then (spec_RangeText.l0 kj9 l0 ((x3_4 ++ (⟨#[62, 61]⟩ : ByteArray)) ++ ((rd_T88 l0 x4_1).f0)) (wrap64 (x4_1 + 1))) else (none)) else (none)) else (if ((rd_T88 l0 x4_1).f0).toList = ([] : List UInt8) then (if x3_4.size + 1 ≤ 9223372036854775807 then (if (x3_4 ++ (⟨#[60]⟩ : ByteArray)).size + ((rd_T88 l0 x4_1).f1).size ≤ 9223372036854775807 then (spec_RangeText.l0 kj9 l0 ((x3_4 ++ (⟨#[60]⟩ : ByteArray)) ++ ((rd_T88 l0 x4_1).f1)) (wrap64 (x4_1 + 1))) else (none)) else (none)) else (if x3_4.size + 2 ≤ 9223372036854775807 then (if (x3_4 ++ (⟨#[62, 61]⟩ : ByteArray)).size + ((rd_T88 l0 x4_1).f0).size ≤ 9223372036854775807 then (if ((x3_4 ++ (⟨#[62, 61]⟩ : ByteArray)) ++ ((rd_T88 l0 x4_1).f0)).size + 2 ≤ 9223372036854775807 then (if (((x3_4 ++ (⟨#[62, 61]⟩ : ByteArray)) ++ ((rd_T88 l0 x4_1).f0)) ++ (⟨#[32, 60]⟩ : ByteArray)).size + ((rd_T88 l0 x4_1).f1).size ≤ 9223372036854775807 then (spec_RangeText.l0 kj9 l0 ((((x3_4 ++ (⟨#[62, 61]⟩ : ByteArray)) ++ ((rd_T88 l0 x4_1).f0)) ++ (⟨#[32, 60]⟩ : ByteArray)) ++ ((rd_T88 l0 x4_1).f1)) (wrap64 (x4_1 + 1))) else (none)) else (none)) else (none)) else (none)))) else (none)) else (none)) = some r := by rw [if_neg (show ¬ (false = true) by decide)] at H; exact H
                    clear H
                    have H := H1
                    clear H1
                    by_cases c17 : 0 ≤ x4_1
                    · rw [if_pos c17] at H
                      have c17b0 : decide (0 ≤ x4_1) = true := decide_eq_true c17
                      clear c17
                      by_cases c18 : x4_1 < (l0.length : Int)
                      · rw [if_pos c18] at H
                        have c18b0 : decide (x4_1 < (l0.length : Int)) = true := decide_eq_true c18
                        clear c18
                        by_cases c19 : ((rd_T88 l0 x4_1).f1).toList = ([] : List UInt8)
                        · rw [if_pos c19] at H
                          have c19b0 : (((rd_T88 l0 x4_1).f1).toList == ([] : List UInt8)) = true := beq_iff_eq.mpr c19
                          have c19b1 : (((rd_T88 l0 x4_1).f1).toList != ([] : List UInt8)) = false := bne_eq_false_iff_eq.mpr c19
                          clear c19
                          by_cases c20 : x3_4.size + 2 ≤ 9223372036854775807
                          · rw [if_pos c20] at H
                            have c20b0 := eq_true c20
                            have c20b1 : decide (x3_4.size + 2 ≤ 9223372036854775807) = true := decide_eq_true c20
                            try have c20b2 : (9223372036854775807 < x3_4.size + 2) = False := eq_false (Nat.not_lt.2 c20)
                            obtain ⟨js21, hjs21⟩ : ∃ j_ : ByteArray, (x3_4 ++ (⟨#[62, 61]⟩ : ByteArray)) = j_ := ⟨_, rfl⟩
                            replace H : (if (js21).size + ((rd_T88 l0 x4_1).f0).size ≤ 9223372036854775807 then (spec_RangeText.l0 kj9 l0 ((js21) ++ ((rd_T88 l0 x4_1).f0)) (wrap64 (x4_1 + 1))) else (none)) = some r := by first | (rw [hjs21] at H; exact H) | (simp only [hjs21] at H ⊢; exact H)
                            by_cases c22 : (js21).size + ((rd_T88 l0 x4_1).f0).size ≤ 9223372036854775807
                            · rw [if_pos c22] at H
                              have c22b0 := eq_true c22
                              have c22b1 : decide ((js21).size + ((rd_T88 l0 x4_1).f0).size ≤ 9223372036854775807) = true := decide_eq_true c22
                              try have c22b2 : (9223372036854775807 < (js21).size + ((rd_T88 l0 x4_1).f0).size) = False := eq_false (Nat.not_lt.2 c22)
                              obtain ⟨js23, hjs23⟩ : ∃ j_ : ByteArray, ((js21) ++ ((rd_T88 l0 x4_1).f0)) = j_ := ⟨_, rfl⟩
                              replace H : (spec_RangeText.l0 kj9 l0 js23 (wrap64 (x4_1 + 1))) = some r := by first | (rw [hjs23] at H; exact H) | (simp only [hjs23] at H ⊢; exact H)
                              have H' := Aside0.mk H
                              clear H
                              have p820 : 0 ≤ (x4_1 : Int) := of_decide_eq_true (by first | (with_reducible assumption) | assumption)
                              have q820 : x4_1 < (l0.length : Int) := of_decide_eq_true (by first | (with_reducible assumption) | assumption)
                              obtain ⟨ad820, e820, hx820_0, hx820_1⟩ := at_T88 HR0.out x4_1 p820 q820
                              cases e820
                              replace hx820_0 := (HB.out.cell (World.block_lt_of_cell? w _ hx820_0)).trans hx820_0
                              replace hx820_1 := (HB.out.cell (World.block_lt_of_cell? w _ hx820_1)).trans hx820_1
                              replace p820 := eq_true p820
                              replace q820 := eq_true q820
                              have p821 : 0 ≤ (x4_1 : Int) := of_decide_eq_true (by first | (with_reducible assumption) | assumption)
                              have q821 : x4_1 < (l0.length : Int) := of_decide_eq_true (by first | (with_reducible assumption) | assumption)
                              obtain ⟨ad821, e821, hx821_0, hx821_1⟩ := at_T88 HR0.out x4_1 p821 q821
                              obtain rfl : ad820 = ad821 := (by injection e821)
                              replace hx821_0 := (HB.out.cell (World.block_lt_of_cell? w _ hx821_0)).trans hx821_0
                              replace hx821_1 := (HB.out.cell (World.block_lt_of_cell? w _ hx821_1)).trans hx821_1
                              replace p821 := eq_true p821
                              replace q821 := eq_true q821
                              go_wp2
                              repeat (go_quiet (fail); try go_wp2)
                              go_roundg kj9
                              case measure => have := HK1.out; have := HJ4.out; have := HJ9.out; omega
                              case rel => exact ⟨(js23), (wrap64 (x4_1 + 1)), (by first | rfl | (simp; done) | (simp only [← hjs23] <;> (first | rfl | simp)) | (simp [*]; done)), (by first | rfl | (simp; done) | (simp [*]; done) | (simp; exact isEmpty_ne _)), H', ⟨by have := HK1.out; have := HJ4.out; have := HJ9.out; omega⟩, ⟨by repeat (first | (with_reducible first | exact HB.out | apply below_alloc | apply pw_below_drewN | apply below_drew1) | exact HB.out)⟩⟩
                            · rw [if_neg c22] at H
                              exact absurd H (by simp)
                          · rw [if_neg c20] at H
                            exact absurd H (by simp)
                        · rw [if_neg c19] at H
                          have c19b0 : (((rd_T88 l0 x4_1).f1).toList == ([] : List UInt8)) = false := beq_eq_false_iff_ne.mpr c19
                          have c19b1 : (((rd_T88 l0 x4_1).f1).toList != ([] : List UInt8)) = true := bne_iff_ne.mpr c19
                          by_cases c24 : ((rd_T88 l0 x4_1).f0).toList = ([] : List UInt8)
                          · rw [if_pos c24] at H
                            have c24b0 : (((rd_T88 l0 x4_1).f0).toList == ([] : List UInt8)) = true := beq_iff_eq.mpr c24
                            have c24b1 : (((rd_T88 l0 x4_1).f0).toList != ([] : List UInt8)) = false := bne_eq_false_iff_eq.mpr c24
                            clear c24
                            by_cases c25 : x3_4.size + 1 ≤ 9223372036854775807
                            · rw [if_pos c25] at H
                              have c25b0 := eq_true c25
                              have c25b1 : decide (x3_4.size + 1 ≤ 9223372036854775807) = true := decide_eq_true c25
                              try have c25b2 : (9223372036854775807 < x3_4.size + 1) = False := eq_false (Nat.not_lt.2 c25)
                              obtain ⟨js26, hjs26⟩ : ∃ j_ : ByteArray, (x3_4 ++ (⟨#[60]⟩ : ByteArray)) = j_ := ⟨_, rfl⟩
                              replace H : (if (js26).size + ((rd_T88 l0 x4_1).f1).size ≤ 9223372036854775807 then (spec_RangeText.l0 kj9 l0 ((js26) ++ ((rd_T88 l0 x4_1).f1)) (wrap64 (x4_1 + 1))) else (none)) = some r := by first | (rw [hjs26] at H; exact H) | (simp only [hjs26] at H ⊢; exact H)
                              by_cases c27 : (js26).size + ((rd_T88 l0 x4_1).f1).size ≤ 9223372036854775807
                              · rw [if_pos c27] at H
                                have c27b0 := eq_true c27
                                have c27b1 : decide ((js26).size + ((rd_T88 l0 x4_1).f1).size ≤ 9223372036854775807) = true := decide_eq_true c27
                                try have c27b2 : (9223372036854775807 < (js26).size + ((rd_T88 l0 x4_1).f1).size) = False := eq_false (Nat.not_lt.2 c27)
                                obtain ⟨js28, hjs28⟩ : ∃ j_ : ByteArray, ((js26) ++ ((rd_T88 l0 x4_1).f1)) = j_ := ⟨_, rfl⟩
                                replace H : (spec_RangeText.l0 kj9 l0 js28 (wrap64 (x4_1 + 1))) = some r := by first | (rw [hjs28] at H; exact H) | (simp only [hjs28] at H ⊢; exact H)
                                have H' := Aside0.mk H
                                clear H
                                have p820 : 0 ≤ (x4_1 : Int) := of_decide_eq_true (by first | (with_reducible assumption) | assumption)
                                have q820 : x4_1 < (l0.length : Int) := of_decide_eq_true (by first | (with_reducible assumption) | assumption)
                                obtain ⟨ad820, e820, hx820_0, hx820_1⟩ := at_T88 HR0.out x4_1 p820 q820
                                cases e820
                                replace hx820_0 := (HB.out.cell (World.block_lt_of_cell? w _ hx820_0)).trans hx820_0
                                replace hx820_1 := (HB.out.cell (World.block_lt_of_cell? w _ hx820_1)).trans hx820_1
                                replace p820 := eq_true p820
                                replace q820 := eq_true q820
                                have p822 : 0 ≤ (x4_1 : Int) := of_decide_eq_true (by first | (with_reducible assumption) | assumption)
                                have q822 : x4_1 < (l0.length : Int) := of_decide_eq_true (by first | (with_reducible assumption) | assumption)
                                obtain ⟨ad822, e822, hx822_0, hx822_1⟩ := at_T88 HR0.out x4_1 p822 q822
                                obtain rfl : ad820 = ad822 := (by injection e822)
                                replace hx822_0 := (HB.out.cell (World.block_lt_of_cell? w _ hx822_0)).trans hx822_0
                                replace hx822_1 := (HB.out.cell (World.block_lt_of_cell? w _ hx822_1)).trans hx822_1
                                replace p822 := eq_true p822
                                replace q822 := eq_true q822
                                have p823 : 0 ≤ (x4_1 : Int) := of_decide_eq_true (by first | (with_reducible assumption) | assumption)
                                have q823 : x4_1 < (l0.length : Int) := of_decide_eq_true (by first | (with_reducible assumption) | assumption)
                                obtain ⟨ad823, e823, hx823_0, hx823_1⟩ := at_T88 HR0.out x4_1 p823 q823
                                obtain rfl : ad820 = ad823 := (by injection e823)
                                replace hx823_0 := (HB.out.cell (World.block_lt_of_cell? w _ hx823_0)).trans hx823_0
                                replace hx823_1 := (HB.out.cell (World.block_lt_of_cell? w _ hx823_1)).trans hx823_1
                                replace p823 := eq_true p823
                                replace q823 := eq_true q823
                                go_wp2
                                repeat (go_quiet (fail); try go_wp2)
                                go_roundg kj9
                                case measure => have := HK1.out; have := HJ4.out; have := HJ9.out; omega
                                case rel => exact ⟨(js28), (wrap64 (x4_1 + 1)), (by first | rfl | (simp; done) | (simp only [← hjs28] <;> (first | rfl | simp)) | (simp [*]; done)), (by first | rfl | (simp; done) | (simp [*]; done) | (simp; exact isEmpty_ne _)), H', ⟨by have := HK1.out; have := HJ4.out; have := HJ9.out; omega⟩, ⟨by repeat (first | (with_reducible first | exact HB.out | apply below_alloc | apply pw_below_drewN | apply below_drew1) | exact HB.out)⟩⟩
                              · rw [if_neg c27] at H
                                exact absurd H (by simp)
                            · rw [if_neg c25] at H
                              exact absurd H (by simp)
                          · rw [if_neg c24] at H
                            have c24b0 : (((rd_T88 l0 x4_1).f0).toList == ([] : List UInt8)) = false := beq_eq_false_iff_ne.mpr c24
                            have c24b1 : (((rd_T88 l0 x4_1).f0).toList != ([] : List UInt8)) = true := bne_iff_ne.mpr c24
                            by_cases c29 : x3_4.size + 2 ≤ 9223372036854775807
                            · rw [if_pos c29] at H
                              have c29b0 := eq_true c29
                              have c29b1 : decide (x3_4.size + 2 ≤ 9223372036854775807) = true := decide_eq_true c29
                              try have c29b2 : (9223372036854775807 < x3_4.size + 2) = False := eq_false (Nat.not_lt.2 c29)
                              obtain ⟨js30, hjs30⟩ : ∃ j_ : ByteArray, (x3_4 ++ (⟨#[62, 61]⟩ : ByteArray)) = j_ := ⟨_, rfl⟩
                              replace H : (if (js30).size + ((rd_T88 l0 x4_1).f0).size ≤ 9223372036854775807 then (if ((js30) ++ ((rd_T88 l0 x4_1).f0)).size + 2 ≤ 9223372036854775807 then (if (((js30) ++ ((rd_T88 l0 x4_1).f0)) ++ (⟨#[32, 60]⟩ : ByteArray)).size + ((rd_T88 l0 x4_1).f1).size ≤ 9223372036854775807 then (spec_RangeText.l0 kj9 l0 ((((js30) ++ ((rd_T88 l0 x4_1).f0)) ++ (⟨#[32, 60]⟩ : ByteArray)) ++ ((rd_T88 l0 x4_1).f1)) (wrap64 (x4_1 + 1))) else (none)) else (none)) else (none)) = some r := by first | (rw [hjs30] at H; exact H) | (simp only [hjs30] at H ⊢; exact H)
                              by_cases c31 : (js30).size + ((rd_T88 l0 x4_1).f0).size ≤ 9223372036854775807
                              · rw [if_pos c31] at H
                                have c31b0 := eq_true c31
                                have c31b1 : decide ((js30).size + ((rd_T88 l0 x4_1).f0).size ≤ 9223372036854775807) = true := decide_eq_true c31
                                try have c31b2 : (9223372036854775807 < (js30).size + ((rd_T88 l0 x4_1).f0).size) = False := eq_false (Nat.not_lt.2 c31)
                                obtain ⟨js32, hjs32⟩ : ∃ j_ : ByteArray, ((js30) ++ ((rd_T88 l0 x4_1).f0)) = j_ := ⟨_, rfl⟩
                                replace H : (if (js32).size + 2 ≤ 9223372036854775807 then (if ((js32) ++ (⟨#[32, 60]⟩ : ByteArray)).size + ((rd_T88 l0 x4_1).f1).size ≤ 9223372036854775807 then (spec_RangeText.l0 kj9 l0 (((js32) ++ (⟨#[32, 60]⟩ : ByteArray)) ++ ((rd_T88 l0 x4_1).f1)) (wrap64 (x4_1 + 1))) else (none)) else (none)) = some r := by first | (rw [hjs32] at H; exact H) | (simp only [hjs32] at H ⊢; exact H)
                                by_cases c33 : (js32).size + 2 ≤ 9223372036854775807
                                · rw [if_pos c33] at H
                                  have c33b0 := eq_true c33
                                  have c33b1 : decide ((js32).size + 2 ≤ 9223372036854775807) = true := decide_eq_true c33
                                  try have c33b2 : (9223372036854775807 < (js32).size + 2) = False := eq_false (Nat.not_lt.2 c33)
                                  obtain ⟨js34, hjs34⟩ : ∃ j_ : ByteArray, ((js32) ++ (⟨#[32, 60]⟩ : ByteArray)) = j_ := ⟨_, rfl⟩
                                  replace H : (if (js34).size + ((rd_T88 l0 x4_1).f1).size ≤ 9223372036854775807 then (spec_RangeText.l0 kj9 l0 ((js34) ++ ((rd_T88 l0 x4_1).f1)) (wrap64 (x4_1 + 1))) else (none)) = some r := by first | (rw [hjs34] at H; exact H) | (simp only [hjs34] at H ⊢; exact H)
                                  by_cases c35 : (js34).size + ((rd_T88 l0 x4_1).f1).size ≤ 9223372036854775807
                                  · rw [if_pos c35] at H
                                    have c35b0 := eq_true c35
                                    have c35b1 : decide ((js34).size + ((rd_T88 l0 x4_1).f1).size ≤ 9223372036854775807) = true := decide_eq_true c35
                                    try have c35b2 : (9223372036854775807 < (js34).size + ((rd_T88 l0 x4_1).f1).size) = False := eq_false (Nat.not_lt.2 c35)
                                    obtain ⟨js36, hjs36⟩ : ∃ j_ : ByteArray, ((js34) ++ ((rd_T88 l0 x4_1).f1)) = j_ := ⟨_, rfl⟩
                                    replace H : (spec_RangeText.l0 kj9 l0 js36 (wrap64 (x4_1 + 1))) = some r := by first | (rw [hjs36] at H; exact H) | (simp only [hjs36] at H ⊢; exact H)
                                    have H' := Aside0.mk H
                                    clear H
                                    have p820 : 0 ≤ (x4_1 : Int) := of_decide_eq_true (by first | (with_reducible assumption) | assumption)
                                    have q820 : x4_1 < (l0.length : Int) := of_decide_eq_true (by first | (with_reducible assumption) | assumption)
                                    obtain ⟨ad820, e820, hx820_0, hx820_1⟩ := at_T88 HR0.out x4_1 p820 q820
                                    cases e820
                                    replace hx820_0 := (HB.out.cell (World.block_lt_of_cell? w _ hx820_0)).trans hx820_0
                                    replace hx820_1 := (HB.out.cell (World.block_lt_of_cell? w _ hx820_1)).trans hx820_1
                                    replace p820 := eq_true p820
                                    replace q820 := eq_true q820
                                    have p822 : 0 ≤ (x4_1 : Int) := of_decide_eq_true (by first | (with_reducible assumption) | assumption)
                                    have q822 : x4_1 < (l0.length : Int) := of_decide_eq_true (by first | (with_reducible assumption) | assumption)
                                    obtain ⟨ad822, e822, hx822_0, hx822_1⟩ := at_T88 HR0.out x4_1 p822 q822
                                    obtain rfl : ad820 = ad822 := (by injection e822)
                                    replace hx822_0 := (HB.out.cell (World.block_lt_of_cell? w _ hx822_0)).trans hx822_0
                                    replace hx822_1 := (HB.out.cell (World.block_lt_of_cell? w _ hx822_1)).trans hx822_1
                                    replace p822 := eq_true p822
                                    replace q822 := eq_true q822
                                    have p824 : 0 ≤ (x4_1 : Int) := of_decide_eq_true (by first | (with_reducible assumption) | assumption)
                                    have q824 : x4_1 < (l0.length : Int) := of_decide_eq_true (by first | (with_reducible assumption) | assumption)
                                    obtain ⟨ad824, e824, hx824_0, hx824_1⟩ := at_T88 HR0.out x4_1 p824 q824
                                    obtain rfl : ad820 = ad824 := (by injection e824)
                                    replace hx824_0 := (HB.out.cell (World.block_lt_of_cell? w _ hx824_0)).trans hx824_0
                                    replace hx824_1 := (HB.out.cell (World.block_lt_of_cell? w _ hx824_1)).trans hx824_1
                                    replace p824 := eq_true p824
                                    replace q824 := eq_true q824
                                    have p825 : 0 ≤ (x4_1 : Int) := of_decide_eq_true (by first | (with_reducible assumption) | assumption)
                                    have q825 : x4_1 < (l0.length : Int) := of_decide_eq_true (by first | (with_reducible assumption) | assumption)
                                    obtain ⟨ad825, e825, hx825_0, hx825_1⟩ := at_T88 HR0.out x4_1 p825 q825
                                    obtain rfl : ad820 = ad825 := (by injection e825)
                                    replace hx825_0 := (HB.out.cell (World.block_lt_of_cell? w _ hx825_0)).trans hx825_0
                                    replace hx825_1 := (HB.out.cell (World.block_lt_of_cell? w _ hx825_1)).trans hx825_1
                                    replace p825 := eq_true p825
                                    replace q825 := eq_true q825
                                    go_wp2
                                    repeat (go_quiet (fail); try go_wp2)
                                    go_roundg kj9
                                    case measure => have := HK1.out; have := HJ4.out; have := HJ9.out; omega
                                    case rel => exact ⟨(js36), (wrap64 (x4_1 + 1)), (by first | rfl | (simp; done) | (simp only [← hjs36] <;> (first | rfl | simp)) | (simp [*]; done)), (by first | rfl | (simp; done) | (simp [*]; done) | (simp; exact isEmpty_ne _)), H', ⟨by have := HK1.out; have := HJ4.out; have := HJ9.out; omega⟩, ⟨by repeat (first | (with_reducible first | exact HB.out | apply below_alloc | apply pw_below_drewN | apply below_drew1) | exact HB.out)⟩⟩
                                  · rw [if_neg c35] at H
                                    exact absurd H (by simp)
                                · rw [if_neg c33] at H
                                  exact absurd H (by simp)
                              · rw [if_neg c31] at H
                                exact absurd H (by simp)
                            · rw [if_neg c29] at H
                              exact absurd H (by simp)
                      · rw [if_neg c18] at H
                        exact absurd H (by simp)
                    · rw [if_neg c17] at H
                      exact absurd H (by simp)
        · replace c4 := Bool.eq_false_iff.mpr c4
          subst c4
          have H1 : (some (⟨#[]⟩ : ByteArray)) = some r := by rw [if_neg (show ¬ (false = true) by decide)] at H; exact H
          clear H
          have H := H1
          clear H1
          obtain rfl := Option.some.inj H
          go_wp2_with (first | (go_at_call 65; (with_reducible refine (spec_RangeOk.calls k1 _ _ l0 false _ ?side1 ?side2 A3.out).mono ?_); (case side1 => repeat (first | exact (Kd.C_below HR0.out HB.out) | (with_reducible refine Kd.C_alloc ?_ _) | (with_reducible refine Kd.C_drewN ?_ _) | (with_reducible refine Kd.C_drew ?_))); (case side2 => exact HC0.out); rintro e w37 ⟨rfl, hb⟩; have n0_ := Aside0.mk (below_step (by repeat (first | (with_reducible first | exact HB.out | apply below_alloc | apply pw_below_drewN | apply below_drew1) | exact HB.out)) hb); clear HB; have HB := n0_; clear n0_; (try clear hb); (try clear hb2); (try clear hk); (try clear hi)))
          repeat (go_quiet (first | (go_at_call 65; (with_reducible refine (spec_RangeOk.calls k1 _ _ l0 false _ ?side1 ?side2 A3.out).mono ?_); (case side1 => repeat (first | exact (Kd.C_below HR0.out HB.out) | (with_reducible refine Kd.C_alloc ?_ _) | (with_reducible refine Kd.C_drewN ?_ _) | (with_reducible refine Kd.C_drew ?_))); (case side2 => exact HC0.out); rintro e w37 ⟨rfl, hb⟩; have n0_ := Aside0.mk (below_step (by repeat (first | (with_reducible first | exact HB.out | apply below_alloc | apply pw_below_drewN | apply below_drew1) | exact HB.out)) hb); clear HB; have HB := n0_; clear n0_; (try clear hb); (try clear hb2); (try clear hk); (try clear hi))); try go_wp2_with (first | (go_at_call 65; (with_reducible refine (spec_RangeOk.calls k1 _ _ l0 false _ ?side1 ?side2 A3.out).mono ?_); (case side1 => repeat (first | exact (Kd.C_below HR0.out HB.out) | (with_reducible refine Kd.C_alloc ?_ _) | (with_reducible refine Kd.C_drewN ?_ _) | (with_reducible refine Kd.C_drew ?_))); (case side2 => exact HC0.out); rintro e w37 ⟨rfl, hb⟩; have n0_ := Aside0.mk (below_step (by repeat (first | (with_reducible first | exact HB.out | apply below_alloc | apply pw_below_drewN | apply below_drew1) | exact HB.out)) hb); clear HB; have HB := n0_; clear n0_; (try clear hb); (try clear hb2); (try clear hk); (try clear hi))))
          go_ret
          exact ⟨by first | rfl | (simp [errW_none, errW_some] <;> rfl) | (simp [*, errW_none, errW_some] <;> rfl), by repeat (first | (with_reducible first | exact HB.out | apply below_alloc | apply pw_below_drewN | apply below_drew1) | exact HB.out)⟩
      · rw [if_neg c2] at H
        have c2b0 : decide (x4_1 < (l0.length : Int)) = false := decide_eq_false c2
        clear c2
        obtain rfl := Option.some.inj H
        go_wp2
        repeat (go_quiet (fail); try go_wp2)
        go_ret
        exact ⟨by first | rfl | (simp [errW_none, errW_some] <;> rfl) | (simp [*, errW_none, errW_some] <;> rfl), by repeat (first | (with_reducible first | exact HB.out | apply below_alloc | apply pw_below_drewN | apply below_drew1) | exact HB.out)⟩

end Go.Proofs.YtgfaphlpkjikkaaDoor.G
