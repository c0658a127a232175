-- PRINTED by print.py (a twelfth state) out of the translation. Not trusted: Lean checks it.
import Derived.Test.YtgfaphlpkjikkaaDoorG0
import Derived.Test.YtgfaphlpkjikkaaDoorGimplPutHex
import Derived.Test.YtgfaphlpkjikkaaDoorGimplisLetter
import Derived.Test.YtgfaphlpkjikkaaDoorGimplisDigit
import Derived.Test.YtgfaphlpkjikkaaDoorGstringsToUpper
namespace Go.Proofs.YtgfaphlpkjikkaaDoor.G
open Go.RowKit Go.Proofs.YtgfaphlpkjikkaaDoorW.PrintWords Go.Proofs.YtgfaphlpkjikkaaDoorW.PrintLast Go.Proofs.YtgfaphlpkjikkaaDoorW.PrintMore
attribute [local go_sem] max2_int min2_int max_two min_two max_three min_three max_four min_four   -- for this text's walks alone
attribute [local go_sem high] Go.Proofs.YtgfaphlpkjikkaaDoor.G.str_gtr Go.Proofs.YtgfaphlpkjikkaaDoor.G.str_leq Go.Proofs.YtgfaphlpkjikkaaDoor.G.str_geq
set_option linter.unusedVariables false
set_option linter.unusedSimpArgs false

/-! ### impl_PutPercent: function 33 -/
mutual
def impl_PutPercent.l0 : Nat → ByteArray → ByteArray → Int → Int → Option (ByteArray)
 | 0, _, _, _, _ => none
 | k + 1, x0, x3, x7, x8 => if x8 < x7 then (if 0 ≤ x8 then (if x8 < (x0.size : Int) then ((impl_isLetter.f (bt x0 x8)).bind fun t245 => (if t245 = true then (impl_PutPercent.j1 k x0 x3 x8 x7 x8 true) else ((impl_isDigit.f (bt x0 x8)).bind fun t246 => (if t246 = true then (impl_PutPercent.j1 k x0 x3 x8 x7 x8 true) else (if (bt x0 x8) = 46 then (impl_PutPercent.j1 k x0 x3 x8 x7 x8 true) else (if (bt x0 x8) = 95 then (impl_PutPercent.j1 k x0 x3 x8 x7 x8 true) else (if (bt x0 x8) = 45 then (impl_PutPercent.j1 k x0 x3 x8 x7 x8 true) else (impl_PutPercent.j1 k x0 x3 x8 x7 x8 ((bt x0 x8) == 126))))))))) else (none)) else (none)) else (some x3)
def impl_PutPercent.j1 : Nat → ByteArray → ByteArray → Int → Int → Int → Bool → Option (ByteArray)
 | 0, _, _, _, _, _, _ => none
 | k + 1, x0, x3, x4, x7, x8, x35 => if x35 = true then (if 0 ≤ x4 then (if x4 ≤ (wrap64 (x4 + 1)) then (if (wrap64 (x4 + 1)) ≤ (x0.size : Int) then (if x3.size + (x0.extract (x4 : Int).toNat ((wrap64 (x4 + 1)) : Int).toNat).size ≤ 9223372036854775807 then (impl_PutPercent.l0 k x0 (x3 ++ (x0.extract (x4 : Int).toNat ((wrap64 (x4 + 1)) : Int).toNat)) x7 (wrap64 (x8 + 1))) else (none)) else (none)) else (none)) else (none)) else (if 0 ≤ x4 then (if x4 ≤ (wrap64 (x4 + 1)) then (if (wrap64 (x4 + 1)) ≤ (x0.size : Int) then ((impl_PutHex.f k (x0.extract (x4 : Int).toNat ((wrap64 (x4 + 1)) : Int).toNat)).bind fun t247 => ((strings_ToUpper.f t247).bind fun t248 => (if 1 + t248.size ≤ 9223372036854775807 then (if x3.size + ((⟨#[37]⟩ : ByteArray) ++ t248).size ≤ 9223372036854775807 then (impl_PutPercent.l0 k x0 (x3 ++ ((⟨#[37]⟩ : ByteArray) ++ t248)) x7 (wrap64 (x8 + 1))) else (none)) else (none)))) else (none)) else (none)) else (none))
end
def impl_PutPercent.f (k : Nat) (a0 : ByteArray) : Option (ByteArray) := impl_PutPercent.l0 k a0 (⟨#[]⟩ : ByteArray) (a0.size : Int) 0
theorem impl_PutPercent.mono_l : ∀ k, (∀ y0 y1 y2 y3, LeO (impl_PutPercent.l0 k y0 y1 y2 y3) (impl_PutPercent.l0 (k + 1) y0 y1 y2 y3)) ∧ (∀ y0 y1 y2 y3 y4 y5, LeO (impl_PutPercent.j1 k y0 y1 y2 y3 y4 y5) (impl_PutPercent.j1 (k + 1) y0 y1 y2 y3 y4 y5))
 | 0 => ⟨fun _ _ _ _ r h => by simp [impl_PutPercent.l0] at h, fun _ _ _ _ _ _ r h => by simp [impl_PutPercent.j1] at h⟩
 | k + 1 => by
  obtain ⟨ih0, ih1⟩ := impl_PutPercent.mono_l k
  refine ⟨?_, ?_⟩
  ·intro y0 y1 y2 y3
   unfold impl_PutPercent.l0
   repeat' first
   | (with_reducible exact ih0 _ _ _ _)
   | (with_reducible exact ih1 _ _ _ _ _ _)
   | (with_reducible exact impl_PutHex.mono _ _)
   | (with_reducible exact LeO.refl _)
   | (with_reducible exact LeO.none _)
   | (with_reducible refine LeO.ite ?_ ?_)
   | (with_reducible refine LeO.bind ?_ (fun _ => ?_))
   | exact ih0 _ _ _ _
   | exact ih1 _ _ _ _ _ _
   | exact impl_PutHex.mono _ _
   | exact LeO.none _
   | refine LeO.ite ?_ ?_
   | refine LeO.bind ?_ (fun _ => ?_)
  ·intro y0 y1 y2 y3 y4 y5
   unfold impl_PutPercent.j1
   repeat' first
   | (with_reducible exact ih0 _ _ _ _)
   | (with_reducible exact ih1 _ _ _ _ _ _)
   | (with_reducible exact impl_PutHex.mono _ _)
   | (with_reducible exact LeO.refl _)
   | (with_reducible exact LeO.none _)
   | (with_reducible refine LeO.ite ?_ ?_)
   | (with_reducible refine LeO.bind ?_ (fun _ => ?_))
   | exact ih0 _ _ _ _
   | exact ih1 _ _ _ _ _ _
   | exact impl_PutHex.mono _ _
   | exact LeO.none _
   | refine LeO.ite ?_ ?_
   | refine LeO.bind ?_ (fun _ => ?_)
theorem impl_PutPercent.mono : ∀ a0 k, LeO (impl_PutPercent.f k a0) (impl_PutPercent.f (k + 1) a0) := by
 intro a0 k
 obtain ⟨ih0, ih1⟩ := impl_PutPercent.mono_l k
 unfold impl_PutPercent.f
 repeat' first
   | (with_reducible exact ih0 _ _ _ _)
   | (with_reducible exact ih1 _ _ _ _ _ _)
   | (with_reducible exact impl_PutHex.mono _ _)
   | (with_reducible exact LeO.refl _)
   | (with_reducible exact LeO.none _)
   | (with_reducible refine LeO.ite ?_ ?_)
   | (with_reducible refine LeO.bind ?_ (fun _ => ?_))
   | exact ih0 _ _ _ _
   | exact ih1 _ _ _ _ _ _
   | exact impl_PutHex.mono _ _
   | exact LeO.none _
   | refine LeO.ite ?_ ?_
   | refine LeO.bind ?_ (fun _ => ?_)
set_option maxHeartbeats 8000000 in
set_option maxRecDepth 100000 in
theorem impl_PutPercent.calls (k : Nat) (a0 : ByteArray) (r : ByteArray) (w : World) (h : impl_PutPercent.f k a0 = some r) :
  Calls Tryd.prog 33 #[.string a0] w fun e w' => e = .returned (.string r) ∧ Below w.heap.size w w' := by
 have HB := Aside0.mk (Below.refl w.heap.size w)
 have H : (impl_PutPercent.l0 k a0 (⟨#[]⟩ : ByteArray) (a0.size : Int) 0) = some r := h
 clear h
 have H' := Aside0.mk H
 clear H
 go_enter Tryd.func33, Tryd.ntmps33
 go_wp2
 go_loopg [3, 8] k (fun kq v3 v8 w' => ∃ (x3_1 : ByteArray) (x8_1 : Int), v3 = .string x3_1 ∧ v8 = .int .i64 x8_1 ∧ Aside0 (impl_PutPercent.l0 kq a0 x3_1 (a0.size : Int) x8_1 = some r) ∧ Aside0 (kq ≤ k) ∧ Aside0 (Below w.heap.size w w'))
 case atStart => exact ⟨((⟨#[]⟩ : ByteArray)), (0), (by first | rfl | (simp; done) | (simp [*]; done) | (simp; exact isEmpty_ne _)), (by first | rfl | (simp; done) | (simp [*]; done) | (simp; exact isEmpty_ne _)), H', ⟨Nat.le_refl _⟩, ⟨by repeat (first | (with_reducible first | exact HB.out | apply below_alloc | apply pw_below_drewN | apply below_drew1) | exact HB.out)⟩⟩
 case round =>
  clear H'
  obtain ⟨x3_1, x8_1, rfl, rfl, HA, HK1, HB⟩ := hrel
  cases gk with
  | zero => exact absurd HA.out (by simp [impl_PutPercent.l0])
  | succ k1 =>
   have H := HA.out
   clear HA
   simp only [impl_PutPercent.l0] at H
   by_cases c2 : x8_1 < (a0.size : Int)
   ·rw [if_pos c2] at H
    have c2b0 : decide (x8_1 < (a0.size : Int)) = true := decide_eq_true c2
    clear c2
    by_cases c3 : 0 ≤ x8_1
    ·rw [if_pos c3] at H
     have c3b0 : decide (0 ≤ x8_1) = true := decide_eq_true c3
     clear c3
     by_cases c4 : x8_1 < (a0.size : Int)
     ·rw [if_pos c4] at H
      have c4b0 : decide (x8_1 < (a0.size : Int)) = true := decide_eq_true c4
      clear c4
      have HC6 := Aside0.mk H
      clear H
      have p5 : 0 ≤ (x8_1 : Int) := of_decide_eq_true (by first | (with_reducible assumption) | assumption)
      have q5 : x8_1 < (a0.size : Int) := of_decide_eq_true (by first | (with_reducible assumption) | assumption)
      have hx5 := bt_at a0 x8_1
      replace p5 := eq_true p5
      replace q5 := eq_true q5
      go_upto_region 6 with (fail)
      go_cut [35] (fun v35 wc => ∃ (kq : Nat) (x35_5 : Bool), v35 = .bool x35_5 ∧ Aside0 (impl_PutPercent.j1 kq a0 x3_1 x8_1 (a0.size : Int) x8_1 x35_5 = some r) ∧ Aside0 (kq ≤ k1) ∧ Aside0 (Below w.heap.size w wc))
      case first =>
       have H := HC6.out
       clear HC6
       replace H := Option.bind_eq_some_iff.mp H
       obtain ⟨t245, A70, H⟩ := H
       replace H : (if t245 = true then (impl_PutPercent.j1 k1 a0 x3_1 x8_1 (a0.size : Int) x8_1 true) else ((impl_isDigit.f (bt a0 x8_1)).bind fun t246 => (if t246 = true then (impl_PutPercent.j1 k1 a0 x3_1 x8_1 (a0.size : Int) x8_1 true) else (if (bt a0 x8_1) = 46 then (impl_PutPercent.j1 k1 a0 x3_1 x8_1 (a0.size : Int) x8_1 true) else (if (bt a0 x8_1) = 95 then (impl_PutPercent.j1 k1 a0 x3_1 x8_1 (a0.size : Int) x8_1 true) else (if (bt a0 x8_1) = 45 then (impl_PutPercent.j1 k1 a0 x3_1 x8_1 (a0.size : Int) x8_1 true) else (impl_PutPercent.j1 k1 a0 x3_1 x8_1 (a0.size : Int) x8_1 ((bt a0 x8_1) == 126)))))))) = some r := H
       have A7 := Aside0.mk A70
       clear A70
       by_cases c8 : t245 = true
       ·subst c8
        have H1 : (impl_PutPercent.j1 k1 a0 x3_1 x8_1 (a0.size : Int) x8_1 true) = some r := by rw [if_pos rfl] at H; exact H
        clear H
        have H := H1
        clear H1
        have H' := Aside0.mk H
        clear H
        go_wp2_with (first | ((with_reducible refine gate_callee (f := 85) rfl ?_); refine goesL_ (some 15) rfl rfl Tryd.func85 (by kernel_rfl) rfl #[.int .u8 (bt a0 x8_1)] rfl (by (try simp only [List.map_toArray, List.map_cons, List.map_nil]); first | done | rfl | (simp only [List.length_drop, List.length_take]; rfl)) ?_; (with_reducible refine (impl_isLetter.calls (bt a0 x8_1) true _ A7.out).mono ?_); rintro e w' ⟨rfl, ⟨nd, rfl⟩⟩; refine ⟨_, rfl, ?_⟩))
        go_meet
        case rel => exact ⟨_, (true), (by first | rfl | (simp; done) | (simp [*]; done) | (simp; exact isEmpty_ne _)), H', ⟨by have := HK1.out; first | omega | exact Nat.le_refl _⟩, ⟨by repeat (first | (with_reducible first | exact HB.out | apply below_alloc | apply pw_below_drewN | apply below_drew1) | exact HB.out)⟩⟩
       ·replace c8 := Bool.eq_false_iff.mpr c8
        subst c8
        have H1 : ((impl_isDigit.f (bt a0 x8_1)).bind fun t246 => (if t246 = true then (impl_PutPercent.j1 k1 a0 x3_1 x8_1 (a0.size : Int) x8_1 true) else (if (bt a0 x8_1) = 46 then (impl_PutPercent.j1 k1 a0 x3_1 x8_1 (a0.size : Int) x8_1 true) else (if (bt a0 x8_1) = 95 then (impl_PutPercent.j1 k1 a0 x3_1 x8_1 (a0.size : Int) x8_1 true) else (if (bt a0 x8_1) = 45 then (impl_PutPercent.j1 k1 a0 x3_1 x8_1 (a0.size : Int) x8_1 true) else (impl_PutPercent.j1 k1 a0 x3_1 x8_1 (a0.size : Int) x8_1 ((bt a0 x8_1) == 126))))))) = some r := by rw [if_neg (show ¬ (false = true) by decide)] at H; exact H
        clear H
        have H := H1
        clear H1
        replace H := Option.bind_eq_some_iff.mp H
        obtain ⟨t246, A90, H⟩ := H
        replace H : (if t246 = true then (impl_PutPercent.j1 k1 a0 x3_1 x8_1 (a0.size : Int) x8_1 true) else (if (bt a0 x8_1) = 46 then (impl_PutPercent.j1 k1 a0 x3_1 x8_1 (a0.size : Int) x8_1 true) else (if (bt a0 x8_1) = 95 then (impl_PutPercent.j1 k1 a0 x3_1 x8_1 (a0.size : Int) x8_1 true) else (if (bt a0 x8_1) = 45 then (impl_PutPercent.j1 k1 a0 x3_1 x8_1 (a0.size : Int) x8_1 true) else (impl_PutPercent.j1 k1 a0 x3_1 x8_1 (a0.size : Int) x8_1 ((bt a0 x8_1) == 126)))))) = some r := H
        have A9 := Aside0.mk A90
        clear A90
        by_cases c10 : t246 = true
        ·subst c10
         have H1 : (impl_PutPercent.j1 k1 a0 x3_1 x8_1 (a0.size : Int) x8_1 true) = some r := by rw [if_pos rfl] at H; exact H
         clear H
         have H := H1
         clear H1
         have H' := Aside0.mk H
         clear H
         go_wp2_with (first | ((with_reducible refine gate_callee (f := 85) rfl ?_); refine goesL_ (some 15) rfl rfl Tryd.func85 (by kernel_rfl) rfl #[.int .u8 (bt a0 x8_1)] rfl (by (try simp only [List.map_toArray, List.map_cons, List.map_nil]); first | done | rfl | (simp only [List.length_drop, List.length_take]; rfl)) ?_; (with_reducible refine (impl_isLetter.calls (bt a0 x8_1) false _ A7.out).mono ?_); rintro e w' ⟨rfl, ⟨nd, rfl⟩⟩; refine ⟨_, rfl, ?_⟩) | (go_at_call 86; (with_reducible refine (impl_isDigit.calls (bt a0 x8_1) true _ A9.out).mono ?_); rintro e w' ⟨rfl, ⟨nd, rfl⟩⟩))
         go_meet
         case rel => exact ⟨_, (true), (by first | rfl | (simp; done) | (simp [*]; done) | (simp; exact isEmpty_ne _)), H', ⟨by have := HK1.out; first | omega | exact Nat.le_refl _⟩, ⟨by repeat (first | (with_reducible first | exact HB.out | apply below_alloc | apply pw_below_drewN | apply below_drew1) | exact HB.out)⟩⟩
        ·replace c10 := Bool.eq_false_iff.mpr c10
         subst c10
         have H1 : (if (bt a0 x8_1) = 46 then (impl_PutPercent.j1 k1 a0 x3_1 x8_1 (a0.size : Int) x8_1 true) else (if (bt a0 x8_1) = 95 then (impl_PutPercent.j1 k1 a0 x3_1 x8_1 (a0.size : Int) x8_1 true) else (if (bt a0 x8_1) = 45 then (impl_PutPercent.j1 k1 a0 x3_1 x8_1 (a0.size : Int) x8_1 true) else (impl_PutPercent.j1 k1 a0 x3_1 x8_1 (a0.size : Int) x8_1 ((bt a0 x8_1) == 126))))) = some r := by rw [if_neg (show ¬ (false = true) by decide)] at H; exact H
         clear H
         have H := H1
         clear H1
         by_cases c11 : (bt a0 x8_1) = 46
         ·rw [if_pos c11] at H
          have c11b0 : ((bt a0 x8_1) == 46) = true := beq_iff_eq.mpr c11
          have c11b1 : ((bt a0 x8_1) != 46) = false := bne_eq_false_iff_eq.mpr c11
          clear c11
          (first | rw [c11b0] | (simp only [i64_w, i32_w]; rw [c11b0]) | skip)
          have H' := Aside0.mk H
          clear H
          go_wp2_with (first | ((with_reducible refine gate_callee (f := 85) rfl ?_); refine goesL_ (some 15) rfl rfl Tryd.func85 (by kernel_rfl) rfl #[.int .u8 (bt a0 x8_1)] rfl (by (try simp only [List.map_toArray, List.map_cons, List.map_nil]); first | done | rfl | (simp only [List.length_drop, List.length_take]; rfl)) ?_; (with_reducible refine (impl_isLetter.calls (bt a0 x8_1) false _ A7.out).mono ?_); rintro e w' ⟨rfl, ⟨nd, rfl⟩⟩; refine ⟨_, rfl, ?_⟩) | (go_at_call 86; (with_reducible refine (impl_isDigit.calls (bt a0 x8_1) false _ A9.out).mono ?_); rintro e w' ⟨rfl, ⟨nd, rfl⟩⟩))
          go_meet
          case rel => exact ⟨_, (true), (by first | rfl | (simp; done) | (simp [*]; done) | (simp; exact isEmpty_ne _)), H', ⟨by have := HK1.out; first | omega | exact Nat.le_refl _⟩, ⟨by repeat (first | (with_reducible first | exact HB.out | apply below_alloc | apply pw_below_drewN | apply below_drew1) | exact HB.out)⟩⟩
         ·rw [if_neg c11] at H
          have c11b0 : ((bt a0 x8_1) == 46) = false := beq_eq_false_iff_ne.mpr c11
          have c11b1 : ((bt a0 x8_1) != 46) = true := bne_iff_ne.mpr c11
          (first | rw [c11b0] | (simp only [i64_w, i32_w]; rw [c11b0]) | skip)
          by_cases c12 : (bt a0 x8_1) = 95
          ·rw [if_pos c12] at H
           have c12b0 : ((bt a0 x8_1) == 95) = true := beq_iff_eq.mpr c12
           have c12b1 : ((bt a0 x8_1) != 95) = false := bne_eq_false_iff_eq.mpr c12
           clear c12
           have H' := Aside0.mk H
           clear H
           go_wp2_with (first | ((with_reducible refine gate_callee (f := 85) rfl ?_); refine goesL_ (some 15) rfl rfl Tryd.func85 (by kernel_rfl) rfl #[.int .u8 (bt a0 x8_1)] rfl (by (try simp only [List.map_toArray, List.map_cons, List.map_nil]); first | done | rfl | (simp only [List.length_drop, List.length_take]; rfl)) ?_; (with_reducible refine (impl_isLetter.calls (bt a0 x8_1) false _ A7.out).mono ?_); rintro e w' ⟨rfl, ⟨nd, rfl⟩⟩; refine ⟨_, rfl, ?_⟩) | (go_at_call 86; (with_reducible refine (impl_isDigit.calls (bt a0 x8_1) false _ A9.out).mono ?_); rintro e w' ⟨rfl, ⟨nd, rfl⟩⟩))
           go_meet
           case rel => exact ⟨_, (true), (by first | rfl | (simp; done) | (simp [*]; done) | (simp; exact isEmpty_ne _)), H', ⟨by have := HK1.out; first | omega | exact Nat.le_refl _⟩, ⟨by repeat (first | (with_reducible first | exact HB.out | apply below_alloc | apply pw_below_drewN | apply below_drew1) | exact HB.out)⟩⟩
          ·rw [if_neg c12] at H
           have c12b0 : ((bt a0 x8_1) == 95) = false := beq_eq_false_iff_ne.mpr c12
           have c12b1 : ((bt a0 x8_1) != 95) = true := bne_iff_ne.mpr c12
           by_cases c13 : (bt a0 x8_1) = 45
           ·rw [if_pos c13] at H
            have c13b0 : ((bt a0 x8_1) == 45) = true := beq_iff_eq.mpr c13
            have c13b1 : ((bt a0 x8_1) != 45) = false := bne_eq_false_iff_eq.mpr c13
            clear c13
            have H' := Aside0.mk H
            clear H
            go_wp2_with (first | ((with_reducible refine gate_callee (f := 85) rfl ?_); refine goesL_ (some 15) rfl rfl Tryd.func85 (by kernel_rfl) rfl #[.int .u8 (bt a0 x8_1)] rfl (by (try simp only [List.map_toArray, List.map_cons, List.map_nil]); first | done | rfl | (simp only [List.length_drop, List.length_take]; rfl)) ?_; (with_reducible refine (impl_isLetter.calls (bt a0 x8_1) false _ A7.out).mono ?_); rintro e w' ⟨rfl, ⟨nd, rfl⟩⟩; refine ⟨_, rfl, ?_⟩) | (go_at_call 86; (with_reducible refine (impl_isDigit.calls (bt a0 x8_1) false _ A9.out).mono ?_); rintro e w' ⟨rfl, ⟨nd, rfl⟩⟩))
            go_meet
            case rel => exact ⟨_, (true), (by first | rfl | (simp; done) | (simp [*]; done) | (simp; exact isEmpty_ne _)), H', ⟨by have := HK1.out; first | omega | exact Nat.le_refl _⟩, ⟨by repeat (first | (with_reducible first | exact HB.out | apply below_alloc | apply pw_below_drewN | apply below_drew1) | exact HB.out)⟩⟩
           ·rw [if_neg c13] at H
            have c13b0 : ((bt a0 x8_1) == 45) = false := beq_eq_false_iff_ne.mpr c13
            have c13b1 : ((bt a0 x8_1) != 45) = true := bne_iff_ne.mpr c13
            have H' := Aside0.mk H
            clear H
            go_wp2_with (first | ((with_reducible refine gate_callee (f := 85) rfl ?_); refine goesL_ (some 15) rfl rfl Tryd.func85 (by kernel_rfl) rfl #[.int .u8 (bt a0 x8_1)] rfl (by (try simp only [List.map_toArray, List.map_cons, List.map_nil]); first | done | rfl | (simp only [List.length_drop, List.length_take]; rfl)) ?_; (with_reducible refine (impl_isLetter.calls (bt a0 x8_1) false _ A7.out).mono ?_); rintro e w' ⟨rfl, ⟨nd, rfl⟩⟩; refine ⟨_, rfl, ?_⟩) | (go_at_call 86; (with_reducible refine (impl_isDigit.calls (bt a0 x8_1) false _ A9.out).mono ?_); rintro e w' ⟨rfl, ⟨nd, rfl⟩⟩))
            go_meet
            case rel => exact ⟨_, (((bt a0 x8_1) == 126)), (by first | rfl | (simp; done) | (simp [*]; done) | (simp; exact isEmpty_ne _)), H', ⟨by have := HK1.out; first | omega | exact Nat.le_refl _⟩, ⟨by repeat (first | (with_reducible first | exact HB.out | apply below_alloc | apply pw_below_drewN | apply below_drew1) | exact HB.out)⟩⟩
      case rest =>
       clear HC6
       try clear c1
       try clear c2
       try clear c2b0
       try clear p2
       try clear c3
       try clear c3b0
       try clear c4
       try clear c4b0
       try clear p5
       try clear q5
       try clear hx5
       try clear c8
       try clear c10
       try clear c11
       try clear c11b0
       try clear c11b1
       try clear c12
       try clear c12b0
       try clear c12b1
       try clear c13
       try clear c13b0
       try clear c13b1
       try clear p5
       try clear q5
       obtain ⟨kq, x35_5, rfl, HA, HJ5, HB⟩ := hcut
       cases kq with
       | zero => exact absurd HA.out (by simp [impl_PutPercent.j1])
       | succ kj5 =>
        have H := HA.out
        clear HA
        simp only [impl_PutPercent.j1] at H
        by_cases c14 : x35_5 = true
        ·subst c14
         have H1 : (if 0 ≤ x8_1 then (if x8_1 ≤ (wrap64 (x8_1 + 1)) then (if (wrap64 (x8_1 + 1)) ≤ (a0.size : Int) then (if x3_1.size + (a0.extract (x8_1 : Int).toNat ((wrap64 (x8_1 + 1)) : Int).toNat).size ≤ 9223372036854775807 then (impl_PutPercent.l0 kj5 a0 (x3_1 ++ (a0.extract (x8_1 : Int).toNat ((wrap64 (x8_1 + 1)) : Int).toNat)) (a0.size : Int) (wrap64 (x8_1 + 1))) else (none)) else (none)) else (none)) else (none)) = some r := by rw [if_pos rfl] at H; exact H
         clear H
         have H := H1
         clear H1
         by_cases c15 : 0 ≤ x8_1
         ·rw [if_pos c15] at H
          have c15b0 := eq_true c15
          have c15b1 : decide (0 ≤ x8_1) = true := decide_eq_true c15
          clear c15
          by_cases c16 : x8_1 ≤ (wrap64 (x8_1 + 1))
          ·rw [if_pos c16] at H
           have c16b0 := eq_true c16
           have c16b1 : decide (x8_1 ≤ (wrap64 (x8_1 + 1))) = true := decide_eq_true c16
           by_cases c17 : (wrap64 (x8_1 + 1)) ≤ (a0.size : Int)
           ·rw [if_pos c17] at H
            have c17b0 := eq_true c17
            have c17b1 : decide ((wrap64 (x8_1 + 1)) ≤ (a0.size : Int)) = true := decide_eq_true c17
            obtain ⟨js18, hjs18⟩ : ∃ j_ : ByteArray, (a0.extract (x8_1 : Int).toNat ((wrap64 (x8_1 + 1)) : Int).toNat) = j_ := ⟨_, rfl⟩
            replace H : (if x3_1.size + (js18).size ≤ 9223372036854775807 then (impl_PutPercent.l0 kj5 a0 (x3_1 ++ (js18)) (a0.size : Int) (wrap64 (x8_1 + 1))) else (none)) = some r := by first | (rw [hjs18] at H; exact H) | (simp only [hjs18] at H ⊢; exact H)
            by_cases c19 : x3_1.size + (js18).size ≤ 9223372036854775807
            ·rw [if_pos c19] at H
             have c19b0 := eq_true c19
             have c19b1 : decide (x3_1.size + (js18).size ≤ 9223372036854775807) = true := decide_eq_true c19
             try have c19b2 : (9223372036854775807 < x3_1.size + (js18).size) = False := eq_false (Nat.not_lt.2 c19)
             obtain ⟨js20, hjs20⟩ : ∃ j_ : ByteArray, (x3_1 ++ (js18)) = j_ := ⟨_, rfl⟩
             replace H : (impl_PutPercent.l0 kj5 a0 js20 (a0.size : Int) (wrap64 (x8_1 + 1))) = some r := by first | (rw [hjs20] at H; exact H) | (simp only [hjs20] at H ⊢; exact H)
             have H' := Aside0.mk H
             clear H
             go_wp2
             go_roundg kj5
             case measure => have := HK1.out; have := HJ5.out; omega
             case rel => exact ⟨(js20), (wrap64 (x8_1 + 1)), (by first | rfl | (simp; done) | (simp only [← hjs20] <;> (first | rfl | simp)) | (simp [*]; done)), (by first | rfl | (simp; done) | (simp [*]; done) | (simp; exact isEmpty_ne _)), H', ⟨by have := HK1.out; have := HJ5.out; omega⟩, ⟨by repeat (first | (with_reducible first | exact HB.out | apply below_alloc | apply pw_below_drewN | apply below_drew1) | exact HB.out)⟩⟩
            ·rw [if_neg c19] at H
             exact absurd H (by simp)
           ·rw [if_neg c17] at H
            exact absurd H (by simp)
          ·rw [if_neg c16] at H
           exact absurd H (by simp)
         ·rw [if_neg c15] at H
          exact absurd H (by simp)
        ·replace c14 := Bool.eq_false_iff.mpr c14
         subst c14
         have H1 : (if 0 ≤ x8_1 then (if x8_1 ≤ (wrap64 (x8_1 + 1)) then (if (wrap64 (x8_1 + 1)) ≤ (a0.size : Int) then ((impl_PutHex.f kj5 (a0.extract (x8_1 : Int).toNat ((wrap64 (x8_1 + 1)) : Int).toNat)).bind fun t247 => ((strings_ToUpper.f t247).bind fun t248 => (if 1 + t248.size ≤ 9223372036854775807 then (if x3_1.size + ((⟨#[37]⟩ : ByteArray) ++ t248).size ≤ 9223372036854775807 then (impl_PutPercent.l0 kj5 a0 (x3_1 ++ ((⟨#[37]⟩ : ByteArray) ++ t248)) (a0.size : Int) (wrap64 (x8_1 + 1))) else (none)) else (none)))) else (none)) else (none)) else (none)) = some r := by rw [if_neg (show ¬ (false = true) by decide)] at H; exact H
         clear H
         have H := H1
         clear H1
         by_cases c21 : 0 ≤ x8_1
         ·rw [if_pos c21] at H
          have c21b0 := eq_true c21
          have c21b1 : decide (0 ≤ x8_1) = true := decide_eq_true c21
          clear c21
          by_cases c22 : x8_1 ≤ (wrap64 (x8_1 + 1))
          ·rw [if_pos c22] at H
           have c22b0 := eq_true c22
           have c22b1 : decide (x8_1 ≤ (wrap64 (x8_1 + 1))) = true := decide_eq_true c22
           by_cases c23 : (wrap64 (x8_1 + 1)) ≤ (a0.size : Int)
           ·rw [if_pos c23] at H
            have c23b0 := eq_true c23
            have c23b1 : decide ((wrap64 (x8_1 + 1)) ≤ (a0.size : Int)) = true := decide_eq_true c23
            obtain ⟨js24, hjs24⟩ : ∃ j_ : ByteArray, (a0.extract (x8_1 : Int).toNat ((wrap64 (x8_1 + 1)) : Int).toNat) = j_ := ⟨_, rfl⟩
            replace H : ((impl_PutHex.f kj5 (js24)).bind fun t247 => ((strings_ToUpper.f t247).bind fun t248 => (if 1 + t248.size ≤ 9223372036854775807 then (if x3_1.size + ((⟨#[37]⟩ : ByteArray) ++ t248).size ≤ 9223372036854775807 then (impl_PutPercent.l0 kj5 a0 (x3_1 ++ ((⟨#[37]⟩ : ByteArray) ++ t248)) (a0.size : Int) (wrap64 (x8_1 + 1))) else (none)) else (none)))) = some r := by first | (rw [hjs24] at H; exact H) | (simp only [hjs24] at H ⊢; exact H)
            replace H := Option.bind_eq_some_iff.mp H
            obtain ⟨t247, A250, H⟩ := H
            replace H : ((strings_ToUpper.f t247).bind fun t248 => (if 1 + t248.size ≤ 9223372036854775807 then (if x3_1.size + ((⟨#[37]⟩ : ByteArray) ++ t248).size ≤ 9223372036854775807 then (impl_PutPercent.l0 kj5 a0 (x3_1 ++ ((⟨#[37]⟩ : ByteArray) ++ t248)) (a0.size : Int) (wrap64 (x8_1 + 1))) else (none)) else (none))) = some r := H
            have A25 := Aside0.mk A250
            clear A250
            replace H := Option.bind_eq_some_iff.mp H
            obtain ⟨t248, A260, H⟩ := H
            replace H : (if 1 + t248.size ≤ 9223372036854775807 then (if x3_1.size + ((⟨#[37]⟩ : ByteArray) ++ t248).size ≤ 9223372036854775807 then (impl_PutPercent.l0 kj5 a0 (x3_1 ++ ((⟨#[37]⟩ : ByteArray) ++ t248)) (a0.size : Int) (wrap64 (x8_1 + 1))) else (none)) else (none)) = some r := H
            have A26 := Aside0.mk A260
            clear A260
            by_cases c27 : 1 + t248.size ≤ 9223372036854775807
            ·rw [if_pos c27] at H
             have c27b0 := eq_true c27
             have c27b1 : decide (1 + t248.size ≤ 9223372036854775807) = true := decide_eq_true c27
             try have c27b2 : (9223372036854775807 < 1 + t248.size) = False := eq_false (Nat.not_lt.2 c27)
             obtain ⟨js28, hjs28⟩ : ∃ j_ : ByteArray, ((⟨#[37]⟩ : ByteArray) ++ t248) = j_ := ⟨_, rfl⟩
             replace H : (if x3_1.size + (js28).size ≤ 9223372036854775807 then (impl_PutPercent.l0 kj5 a0 (x3_1 ++ (js28)) (a0.size : Int) (wrap64 (x8_1 + 1))) else (none)) = some r := by first | (rw [hjs28] at H; exact H) | (simp only [hjs28] at H ⊢; exact H)
             (try rw [hjs28] at A25)
             (try rw [hjs28] at A26)
             by_cases c29 : x3_1.size + (js28).size ≤ 9223372036854775807
             ·rw [if_pos c29] at H
              have c29b0 := eq_true c29
              have c29b1 : decide (x3_1.size + (js28).size ≤ 9223372036854775807) = true := decide_eq_true c29
              try have c29b2 : (9223372036854775807 < x3_1.size + (js28).size) = False := eq_false (Nat.not_lt.2 c29)
              obtain ⟨js30, hjs30⟩ : ∃ j_ : ByteArray, (x3_1 ++ (js28)) = j_ := ⟨_, rfl⟩
              replace H : (impl_PutPercent.l0 kj5 a0 js30 (a0.size : Int) (wrap64 (x8_1 + 1))) = some r := by first | (rw [hjs30] at H; exact H) | (simp only [hjs30] at H ⊢; exact H)
              (try rw [hjs30] at A25)
              (try rw [hjs30] at A26)
              have H' := Aside0.mk H
              clear H
              go_wp2_with (first | ((with_reducible refine gate_callee (f := 53) rfl ?_); refine goesL_ (some 49) rfl rfl Tryd.func53 (by kernel_rfl) rfl #[.string js24] rfl (by (try simp only [List.map_toArray, List.map_cons, List.map_nil]); first | done | rfl | (simp only [List.length_drop, List.length_take]; rfl)) ?_; (with_reducible refine (impl_PutHex.calls kj5 js24 t247 _ A25.out).mono ?_); rintro e w31 ⟨rfl, hb⟩; refine ⟨_, rfl, ?_⟩; have n0_ := Aside0.mk (below_step (by repeat (first | (with_reducible first | exact HB.out | apply below_alloc | apply pw_below_drewN | apply below_drew1) | exact HB.out)) hb); clear HB; have HB := n0_; clear n0_; (try clear hb); (try clear hb2); (try clear hk); (try clear hi)) | ((with_reducible refine gate_callee (f := 87) rfl ?_); refine goesL_ (some 50) rfl rfl Tryd.func87 (by kernel_rfl) rfl #[.string t247] rfl (by (try simp only [List.map_toArray, List.map_cons, List.map_nil]); first | done | rfl | (simp only [List.length_drop, List.length_take]; rfl)) ?_; (with_reducible refine (strings_ToUpper.calls t247 t248 _ A26.out).mono ?_); rintro e w32 ⟨rfl, hb⟩; refine ⟨_, rfl, ?_⟩; have n0_ := Aside0.mk (below_step (by repeat (first | (with_reducible first | exact HB.out | apply below_alloc | apply pw_below_drewN | apply below_drew1) | exact HB.out)) hb); clear HB; have HB := n0_; clear n0_; (try clear hb); (try clear hb2); (try clear hk); (try clear hi)))
              go_roundg kj5
              case measure => have := HK1.out; have := HJ5.out; omega
              case rel => exact ⟨(js30), (wrap64 (x8_1 + 1)), (by first | rfl | (simp; done) | (simp only [← hjs30] <;> (first | rfl | simp)) | (simp [*]; done)), (by first | rfl | (simp; done) | (simp [*]; done) | (simp; exact isEmpty_ne _)), H', ⟨by have := HK1.out; have := HJ5.out; omega⟩, ⟨by repeat (first | (with_reducible first | exact HB.out | apply below_alloc | apply pw_below_drewN | apply below_drew1) | exact HB.out)⟩⟩
             ·rw [if_neg c29] at H
              exact absurd H (by simp)
            ·rw [if_neg c27] at H
             exact absurd H (by simp)
           ·rw [if_neg c23] at H
            exact absurd H (by simp)
          ·rw [if_neg c22] at H
           exact absurd H (by simp)
         ·rw [if_neg c21] at H
          exact absurd H (by simp)
     ·rw [if_neg c4] at H
      exact absurd H (by simp)
    ·rw [if_neg c3] at H
     exact absurd H (by simp)
   ·rw [if_neg c2] at H
    have c2b0 : decide (x8_1 < (a0.size : Int)) = false := decide_eq_false c2
    clear c2
    obtain rfl := Option.some.inj H
    go_wp2
    go_ret
    exact ⟨by first | rfl | (simp [errW_none, errW_some] <;> rfl) | (simp [*, errW_none, errW_some] <;> rfl), by repeat (first | (with_reducible first | exact HB.out | apply below_alloc | apply pw_below_drewN | apply below_drew1) | exact HB.out)⟩

end Go.Proofs.YtgfaphlpkjikkaaDoor.G
