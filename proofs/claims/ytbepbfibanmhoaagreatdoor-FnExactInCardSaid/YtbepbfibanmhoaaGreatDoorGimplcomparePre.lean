-- PRINTED by print.py (a twelfth state) out of the translation. Not trusted: Lean checks it.
import Derived.Test.YtbepbfibanmhoaaGreatDoorG0
import Derived.Test.YtbepbfibanmhoaaGreatDoorGimplisNumber
import Derived.Test.YtbepbfibanmhoaaGreatDoorGimplcompareInts
import Derived.Test.YtbepbfibanmhoaaGreatDoorGstringsTrimLeft
import Derived.Test.YtbepbfibanmhoaaGreatDoorGstringsCompare
namespace Go.Proofs.YtbepbfibanmhoaaGreatDoor.G
open Go.RowKit Go.Proofs.YtbepbfibanmhoaaGreatDoorW.PrintWords Go.Proofs.YtbepbfibanmhoaaGreatDoorW.PrintLast Go.Proofs.YtbepbfibanmhoaaGreatDoorW.PrintMore
attribute [local go_sem] max2_int min2_int max_two min_two max_three min_three max_four min_four   -- for this text's walks alone
attribute [local go_sem high] Go.Proofs.YtbepbfibanmhoaaGreatDoor.G.str_gtr Go.Proofs.YtbepbfibanmhoaaGreatDoor.G.str_leq Go.Proofs.YtbepbfibanmhoaaGreatDoor.G.str_geq
set_option linter.unusedVariables false
set_option linter.unusedSimpArgs false

/-! ### impl_comparePre: function 90 -/
def impl_comparePre.j0 : Nat → ByteArray → ByteArray → Bool → Bool → Bool → Option (Int)
 | 0, _, _, _, _, _ => none
 | k + 1, x0, x1, x5, x6, x12 => if x12 = true then ((strings_TrimLeft.f x0 (⟨#[48]⟩ : ByteArray)).bind fun t286 => ((strings_TrimLeft.f x1 (⟨#[48]⟩ : ByteArray)).bind fun t287 => ((impl_compareInts.f (t286.size : Int) (t287.size : Int)).bind fun t288 => (if t288 = 0 then ((strings_Compare.f t286 t287).bind fun t289 => (some t289)) else (some t288))))) else (if x5 = true then (some (-1)) else (if x6 = true then (some 1) else ((strings_Compare.f x0 x1).bind fun t290 => (some t290))))
def impl_comparePre.f (k : Nat) (a0 : ByteArray) (a1 : ByteArray) : Option (Int) := (impl_isNumber.f k a0).bind fun t284 => ((impl_isNumber.f k a1).bind fun t285 => (if t284 = true then (impl_comparePre.j0 k a0 a1 t284 t285 t285) else (impl_comparePre.j0 k a0 a1 t284 t285 false)))
theorem impl_comparePre.mono_l : ∀ k, (∀ y0 y1 y2 y3 y4, LeO (impl_comparePre.j0 k y0 y1 y2 y3 y4) (impl_comparePre.j0 (k + 1) y0 y1 y2 y3 y4))
 | 0 => fun _ _ _ _ _ r h => by simp [impl_comparePre.j0] at h
 | k + 1 => by
  have ih0 := impl_comparePre.mono_l k
  ·intro y0 y1 y2 y3 y4
   unfold impl_comparePre.j0
   repeat' first
   | (with_reducible exact ih0 _ _ _ _ _)
   | (with_reducible exact impl_isNumber.mono _ _)
   | (with_reducible exact LeO.refl _)
   | (with_reducible exact LeO.none _)
   | (with_reducible refine LeO.ite ?_ ?_)
   | (with_reducible refine LeO.bind ?_ (fun _ => ?_))
   | exact ih0 _ _ _ _ _
   | exact impl_isNumber.mono _ _
   | exact LeO.none _
   | refine LeO.ite ?_ ?_
   | refine LeO.bind ?_ (fun _ => ?_)
theorem impl_comparePre.mono : ∀ a0 a1 k, LeO (impl_comparePre.f k a0 a1) (impl_comparePre.f (k + 1) a0 a1) := by
 intro a0 a1 k
 have ih0 := impl_comparePre.mono_l k
 unfold impl_comparePre.f
 repeat' first
   | (with_reducible exact ih0 _ _ _ _ _)
   | (with_reducible exact impl_isNumber.mono _ _)
   | (with_reducible exact LeO.refl _)
   | (with_reducible exact LeO.none _)
   | (with_reducible refine LeO.ite ?_ ?_)
   | (with_reducible refine LeO.bind ?_ (fun _ => ?_))
   | exact ih0 _ _ _ _ _
   | exact impl_isNumber.mono _ _
   | exact LeO.none _
   | refine LeO.ite ?_ ?_
   | refine LeO.bind ?_ (fun _ => ?_)
set_option maxRecDepth 100000 in
theorem impl_comparePre.zl1 {P : Prop} (h : P := by
 go_wp2_with (first | ((with_reducible refine gate_callee (f := 121) rfl ?_); refine goesL_ (some 18) rfl rfl Tryz.func121 (by kernel_rfl) rfl #[.string a0, .string (⟨#[48]⟩ : ByteArray)] rfl zb1 ?_; (with_reducible refine (strings_TrimLeft.calls a0 (⟨#[48]⟩ : ByteArray) t286 _ A8.out).mono ?_); rintro e w' ⟨rfl, ⟨nd, rfl⟩⟩; refine ⟨_, rfl, ?_⟩) | ((with_reducible refine gate_callee (f := 121) rfl ?_); refine goesL_ (some 20) rfl rfl Tryz.func121 (by kernel_rfl) rfl #[.string a1, .string (⟨#[48]⟩ : ByteArray)] rfl zb1 ?_; (with_reducible refine (strings_TrimLeft.calls a1 (⟨#[48]⟩ : ByteArray) t287 _ A9.out).mono ?_); rintro e w' ⟨rfl, ⟨nd, rfl⟩⟩; refine ⟨_, rfl, ?_⟩) | ((with_reducible refine gate_callee (f := 89) rfl ?_); refine goesL_ (some 25) rfl rfl Tryz.func89 (by kernel_rfl) rfl #[.int .i64 (t286.size : Int), .int .i64 (t287.size : Int)] rfl zb1 ?_; (with_reducible refine (impl_compareInts.calls (t286.size : Int) (t287.size : Int) t288 _ A10.out).mono ?_); rintro e w' ⟨rfl, ⟨nd, rfl⟩⟩; refine ⟨_, rfl, ?_⟩) | ((with_reducible refine gate_callee (f := 122) rfl ?_); refine goesL_ (some 35) rfl rfl Tryz.func122 (by kernel_rfl) rfl #[.string t286, .string t287] rfl zb1 ?_; (with_reducible refine (strings_Compare.calls t286 t287 t289 _ A12.out).mono ?_); rintro e w' ⟨rfl, ⟨nd, rfl⟩⟩; refine ⟨_, rfl, ?_⟩))
 go_ret
 exact ⟨by first | rfl | (simp; done) | (simp [*]; done) | (simp; exact isEmpty_ne _), by repeat (first | exact Drawn0.refl _ | apply Drawn0.step)⟩) : P := h
set_option maxHeartbeats 8000000 in
set_option maxRecDepth 100000 in
theorem impl_comparePre.calls (k : Nat) (a0 : ByteArray) (a1 : ByteArray) (r : Int) (w : World) (h : impl_comparePre.f k a0 a1 = some r) :
  Calls Tryz.prog 90 #[.string a0, .string a1] w fun e w' => e = .returned (.int .i64 r) ∧ Drawn0 w w' := by
 have H : ((impl_isNumber.f k a0).bind fun t284 => ((impl_isNumber.f k a1).bind fun t285 => (if t284 = true then (impl_comparePre.j0 k a0 a1 t284 t285 t285) else (impl_comparePre.j0 k a0 a1 t284 t285 false)))) = some r := h
 clear h
 replace H := Option.bind_eq_some_iff.mp H
 obtain ⟨t284, A30, H⟩ := H
 replace H : ((impl_isNumber.f k a1).bind fun t285 => (if t284 = true then (impl_comparePre.j0 k a0 a1 t284 t285 t285) else (impl_comparePre.j0 k a0 a1 t284 t285 false))) = some r := H
 have A3 := Aside0.mk A30
 clear A30
 replace H := Option.bind_eq_some_iff.mp H
 obtain ⟨t285, A40, H⟩ := H
 replace H : (if t284 = true then (impl_comparePre.j0 k a0 a1 t284 t285 t285) else (impl_comparePre.j0 k a0 a1 t284 t285 false)) = some r := H
 have A4 := Aside0.mk A40
 clear A40
 have HC5 := Aside0.mk H
 clear H
 go_enter Tryz.func90, Tryz.ntmps90
 go_upto_region 2 with (first | ((with_reducible refine gate_callee (f := 117) rfl ?_); refine goesL_ (some 9) rfl rfl Tryz.func117 (by kernel_rfl) rfl #[.string a0] rfl zb1 ?_; (with_reducible refine (impl_isNumber.calls k a0 t284 _ A3.out).mono ?_); rintro e w' ⟨rfl, ⟨nd, rfl⟩⟩; refine ⟨_, rfl, ?_⟩) | ((with_reducible refine gate_callee (f := 117) rfl ?_); refine goesL_ (some 11) rfl rfl Tryz.func117 (by kernel_rfl) rfl #[.string a1] rfl zb1 ?_; (with_reducible refine (impl_isNumber.calls k a1 t285 _ A4.out).mono ?_); rintro e w' ⟨rfl, ⟨nd, rfl⟩⟩; refine ⟨_, rfl, ?_⟩))
 (try simp only [Act.put, List.setIfInBounds_toArray, List.set_cons_zero, List.set_cons_succ])
 go_cut [12] (fun v12 wc => ∃ (kq : Nat) (x12_4 : Bool), v12 = .bool x12_4 ∧ Aside0 (impl_comparePre.j0 kq a0 a1 t284 t285 x12_4 = some r) ∧ Aside0 (kq ≤ k) ∧ Drawn0 w wc)
 case first =>
  have H := HC5.out
  clear HC5
  by_cases c6 : t284 = true
  ·subst c6
   have H1 : (impl_comparePre.j0 k a0 a1 true t285 t285) = some r := by rw [if_pos rfl] at H; exact H
   clear H
   have H := H1
   clear H1
   have H' := Aside0.mk H
   clear H
   go_wp2
   go_meet
   case rel => exact ⟨_, (t285), zb5, H', ⟨by first | omega | exact Nat.le_refl _⟩, by repeat (first | exact Drawn0.refl _ | apply Drawn0.step)⟩
  ·replace c6 := Bool.eq_false_iff.mpr c6
   subst c6
   have H1 : (impl_comparePre.j0 k a0 a1 false t285 false) = some r := by rw [if_neg (show ¬ (false = true) by decide)] at H; exact H
   clear H
   have H := H1
   clear H1
   have H' := Aside0.mk H
   clear H
   go_wp2
   go_meet
   case rel => exact ⟨_, (false), zb5, H', ⟨by first | omega | exact Nat.le_refl _⟩, by repeat (first | exact Drawn0.refl _ | apply Drawn0.step)⟩
 case rest =>
  clear HC5
  try clear c1
  try clear p2
  try clear c6
  obtain ⟨kq, x12_4, rfl, HA, HJ4, ⟨mc4, rfl⟩⟩ := hcut
  cases kq with
  | zero => exact absurd HA.out (by simp [impl_comparePre.j0])
  | succ kj4 =>
   have H := HA.out
   clear HA
   simp only [impl_comparePre.j0] at H
   by_cases c7 : x12_4 = true
   ·subst c7
    have H1 : ((strings_TrimLeft.f a0 (⟨#[48]⟩ : ByteArray)).bind fun t286 => ((strings_TrimLeft.f a1 (⟨#[48]⟩ : ByteArray)).bind fun t287 => ((impl_compareInts.f (t286.size : Int) (t287.size : Int)).bind fun t288 => (if t288 = 0 then ((strings_Compare.f t286 t287).bind fun t289 => (some t289)) else (some t288))))) = some r := by rw [if_pos rfl] at H; exact H
    clear H
    have H := H1
    clear H1
    replace H := Option.bind_eq_some_iff.mp H
    obtain ⟨t286, A80, H⟩ := H
    replace H : ((strings_TrimLeft.f a1 (⟨#[48]⟩ : ByteArray)).bind fun t287 => ((impl_compareInts.f (t286.size : Int) (t287.size : Int)).bind fun t288 => (if t288 = 0 then ((strings_Compare.f t286 t287).bind fun t289 => (some t289)) else (some t288)))) = some r := H
    have A8 := Aside0.mk A80
    clear A80
    replace H := Option.bind_eq_some_iff.mp H
    obtain ⟨t287, A90, H⟩ := H
    replace H : ((impl_compareInts.f (t286.size : Int) (t287.size : Int)).bind fun t288 => (if t288 = 0 then ((strings_Compare.f t286 t287).bind fun t289 => (some t289)) else (some t288))) = some r := H
    have A9 := Aside0.mk A90
    clear A90
    replace H := Option.bind_eq_some_iff.mp H
    obtain ⟨t288, A100, H⟩ := H
    replace H : (if t288 = 0 then ((strings_Compare.f t286 t287).bind fun t289 => (some t289)) else (some t288)) = some r := H
    have A10 := Aside0.mk A100
    clear A100
    by_cases c11 : t288 = 0
    ·rw [if_pos c11] at H
     have c11b0 : (t288 == 0) = true := beq_iff_eq.mpr c11
     have c11b1 : (t288 != 0) = false := bne_eq_false_iff_eq.mpr c11
     clear c11
     replace H := Option.bind_eq_some_iff.mp H
     obtain ⟨t289, A120, H⟩ := H
     replace H : (some t289) = some r := H
     have A12 := Aside0.mk A120
     clear A120
     obtain rfl := Option.some.inj H
     exact impl_comparePre.zl1
    ·rw [if_neg c11] at H
     have c11b0 : (t288 == 0) = false := beq_eq_false_iff_ne.mpr c11
     have c11b1 : (t288 != 0) = true := bne_iff_ne.mpr c11
     obtain rfl := Option.some.inj H
     exact impl_comparePre.zl1
   ·replace c7 := Bool.eq_false_iff.mpr c7
    subst c7
    have H1 : (if t284 = true then (some (-1)) else (if t285 = true then (some 1) else ((strings_Compare.f a0 a1).bind fun t290 => (some t290)))) = some r := by rw [if_neg (show ¬ (false = true) by decide)] at H; exact H
    clear H
    have H := H1
    clear H1
    by_cases c13 : t284 = true
    ·subst c13
     have H1 : (some (-1)) = some r := by rw [if_pos rfl] at H; exact H
     clear H
     have H := H1
     clear H1
     obtain rfl := Option.some.inj H
     go_wp2
     go_ret
     exact ⟨by first | rfl | (simp; done) | (simp [*]; done) | (simp; exact isEmpty_ne _), by repeat (first | exact Drawn0.refl _ | apply Drawn0.step)⟩
    ·replace c13 := Bool.eq_false_iff.mpr c13
     subst c13
     have H1 : (if t285 = true then (some 1) else ((strings_Compare.f a0 a1).bind fun t290 => (some t290))) = some r := by rw [if_neg (show ¬ (false = true) by decide)] at H; exact H
     clear H
     have H := H1
     clear H1
     by_cases c14 : t285 = true
     ·subst c14
      have H1 : (some 1) = some r := by rw [if_pos rfl] at H; exact H
      clear H
      have H := H1
      clear H1
      obtain rfl := Option.some.inj H
      go_wp2
      go_ret
      exact ⟨by first | rfl | (simp; done) | (simp [*]; done) | (simp; exact isEmpty_ne _), by repeat (first | exact Drawn0.refl _ | apply Drawn0.step)⟩
     ·replace c14 := Bool.eq_false_iff.mpr c14
      subst c14
      have H1 : ((strings_Compare.f a0 a1).bind fun t290 => (some t290)) = some r := by rw [if_neg (show ¬ (false = true) by decide)] at H; exact H
      clear H
      have H := H1
      clear H1
      replace H := Option.bind_eq_some_iff.mp H
      obtain ⟨t290, A150, H⟩ := H
      replace H : (some t290) = some r := H
      have A15 := Aside0.mk A150
      clear A150
      obtain rfl := Option.some.inj H
      go_wp2_with (first | ((with_reducible refine gate_callee (f := 122) rfl ?_); refine goesL_ (some 35) rfl rfl Tryz.func122 (by kernel_rfl) rfl #[.string a0, .string a1] rfl zb1 ?_; (with_reducible refine (strings_Compare.calls a0 a1 t290 _ A15.out).mono ?_); rintro e w' ⟨rfl, ⟨nd, rfl⟩⟩; refine ⟨_, rfl, ?_⟩))
      go_ret
      exact ⟨by first | rfl | (simp; done) | (simp [*]; done) | (simp; exact isEmpty_ne _), by repeat (first | exact Drawn0.refl _ | apply Drawn0.step)⟩

end Go.Proofs.YtbepbfibanmhoaaGreatDoor.G
