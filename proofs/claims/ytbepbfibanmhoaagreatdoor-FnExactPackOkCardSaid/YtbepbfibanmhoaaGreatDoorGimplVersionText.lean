/- A part of the proof that the law FnExactPackOk answers true at every input that its row speaks of. Conditions: the row's own. -/
import Derived.Test.YtbepbfibanmhoaaGreatDoorKFnExactPackOk0
namespace Go.Proofs.YtbepbfibanmhoaaGreatDoor.G
open Go.RowKit Go.Proofs.YtbepbfibanmhoaaGreatDoorW.PrintWords Go.Proofs.YtbepbfibanmhoaaGreatDoorW.PrintLast Go.Proofs.YtbepbfibanmhoaaGreatDoorW.PrintMore
attribute [local go_sem] max2_int min2_int max_two min_two max_three min_three max_four min_four
attribute [local go_sem high] Go.Proofs.YtbepbfibanmhoaaGreatDoor.G.str_gtr Go.Proofs.YtbepbfibanmhoaaGreatDoor.G.str_leq Go.Proofs.YtbepbfibanmhoaaGreatDoor.G.str_geq
set_option linter.unusedVariables false
set_option linter.unusedSimpArgs false
def impl_VersionText.f (k : Nat) (a0_0 : Int) (a0_1 : Int) (a0_2 : Int) (l0_3 : List ByteArray) : Option (ByteArray) := (impl_VersionOk.f k a0_0 a0_1 a0_2 l0_3).bind fun t246 => (if t246 = true then ((impl_DecText.f a0_0).bind fun t247 => (if t247.size + 1 ≤ 9223372036854775807 then ((impl_DecText.f a0_1).bind fun t248 => (if (t247 ++ (⟨#[46]⟩ : ByteArray)).size + t248.size ≤ 9223372036854775807 then (if ((t247 ++ (⟨#[46]⟩ : ByteArray)) ++ t248).size + 1 ≤ 9223372036854775807 then ((impl_DecText.f a0_2).bind fun t249 => (if (((t247 ++ (⟨#[46]⟩ : ByteArray)) ++ t248) ++ (⟨#[46]⟩ : ByteArray)).size + t249.size ≤ 9223372036854775807 then (if (l0_3.length : Int) > 0 then ((strings_Join.f l0_3 (⟨#[46]⟩ : ByteArray)).bind fun t250 => (if 1 + t250.size ≤ 9223372036854775807 then (if ((((t247 ++ (⟨#[46]⟩ : ByteArray)) ++ t248) ++ (⟨#[46]⟩ : ByteArray)) ++ t249).size + ((⟨#[45]⟩ : ByteArray) ++ t250).size ≤ 9223372036854775807 then (some (((((t247 ++ (⟨#[46]⟩ : ByteArray)) ++ t248) ++ (⟨#[46]⟩ : ByteArray)) ++ t249) ++ ((⟨#[45]⟩ : ByteArray) ++ t250))) else (none)) else (none))) else (some ((((t247 ++ (⟨#[46]⟩ : ByteArray)) ++ t248) ++ (⟨#[46]⟩ : ByteArray)) ++ t249))) else (none))) else (none)) else (none))) else (none))) else (some (⟨#[]⟩ : ByteArray)))
def impl_VersionText.T3 : Bool × List (List Nat × List Nat) := (true, [([], []), ([0], [0]), ([1], [1]), ([2], [2]), ([], []), ([4], [4]), ([5, 2], [5]), ([3, 6], [3, 6]), ([7], [7]), ([], []), ([9], [9]), ([10, 6], [10]), ([8, 11], [8, 11]), ([12, 11, 0, 1, 2, 3, 4, 5, 6, 7, 8, 9, 10, 11, 12], [12])])
def impl_VersionText.B3 : List Nat := [0, 1, 3, 7, 0, 16, 55, 127, 255, 0, 512, 1655, 4095, 8191]
theorem impl_VersionText.tab3 : rtab .any (opsOf Tryz.f60 3) = impl_VersionText.T3 := by kernel_rfl
theorem impl_VersionText.bits3 : waitsOk impl_VersionText.T3.2 impl_VersionText.B3 = true := by kernel_rfl
set_option maxHeartbeats 8000000 in
set_option maxRecDepth 100000 in
theorem impl_VersionText.calls (k : Nat) (a0_0 : Int) (a0_1 : Int) (a0_2 : Int) (A0_3 : Option Addr) (c0_3 : Nat) (l0_3 : List ByteArray) (r : ByteArray) (w : World) (hr0_3 : Kd.C Kd.string w A0_3 l0_3.length l0_3) (hc0_3 : l0_3.length ≤ c0_3) (hGE : Glob FactE w) (hGT : Glob FactT w) (h : impl_VersionText.f k a0_0 a0_1 a0_2 l0_3 = some r) :
  Calls Tryz.prog 60 #[.agg #[.int .i64 a0_0, .int .i64 a0_1, .int .i64 a0_2, .slice A0_3 l0_3.length c0_3]] w fun e w' => e = .returned (.string r) ∧ Below w.heap.size w w' := by
 have hu50 := Tryz.underlying50
 have HR0_3 := Aside0.mk hr0_3
 have HC0_3 := Aside0.mk hc0_3
 clear hr0_3 hc0_3
 have HB := Aside0.mk (Below.refl w.heap.size w)
 have HGE := Aside0.mk hGE
 clear hGE
 have HGT := Aside0.mk hGT
 clear hGT
 have H : ((impl_VersionOk.f k a0_0 a0_1 a0_2 l0_3).bind fun t246 => (if t246 = true then ((impl_DecText.f a0_0).bind fun t247 => (if t247.size + 1 ≤ 9223372036854775807 then ((impl_DecText.f a0_1).bind fun t248 => (if (t247 ++ (⟨#[46]⟩ : ByteArray)).size + t248.size ≤ 9223372036854775807 then (if ((t247 ++ (⟨#[46]⟩ : ByteArray)) ++ t248).size + 1 ≤ 9223372036854775807 then ((impl_DecText.f a0_2).bind fun t249 => (if (((t247 ++ (⟨#[46]⟩ : ByteArray)) ++ t248) ++ (⟨#[46]⟩ : ByteArray)).size + t249.size ≤ 9223372036854775807 then (if (l0_3.length : Int) > 0 then ((strings_Join.f l0_3 (⟨#[46]⟩ : ByteArray)).bind fun t250 => (if 1 + t250.size ≤ 9223372036854775807 then (if ((((t247 ++ (⟨#[46]⟩ : ByteArray)) ++ t248) ++ (⟨#[46]⟩ : ByteArray)) ++ t249).size + ((⟨#[45]⟩ : ByteArray) ++ t250).size ≤ 9223372036854775807 then (some (((((t247 ++ (⟨#[46]⟩ : ByteArray)) ++ t248) ++ (⟨#[46]⟩ : ByteArray)) ++ t249) ++ ((⟨#[45]⟩ : ByteArray) ++ t250))) else (none)) else (none))) else (some ((((t247 ++ (⟨#[46]⟩ : ByteArray)) ++ t248) ++ (⟨#[46]⟩ : ByteArray)) ++ t249))) else (none))) else (none)) else (none))) else (none))) else (some (⟨#[]⟩ : ByteArray)))) = some r := h
 clear h
 replace H := Option.bind_eq_some_iff.mp H
 obtain ⟨t246, A20, H⟩ := H
 replace H : (if t246 = true then ((impl_DecText.f a0_0).bind fun t247 => (if t247.size + 1 ≤ 9223372036854775807 then ((impl_DecText.f a0_1).bind fun t248 => (if (t247 ++ (⟨#[46]⟩ : ByteArray)).size + t248.size ≤ 9223372036854775807 then (if ((t247 ++ (⟨#[46]⟩ : ByteArray)) ++ t248).size + 1 ≤ 9223372036854775807 then ((impl_DecText.f a0_2).bind fun t249 => (if (((t247 ++ (⟨#[46]⟩ : ByteArray)) ++ t248) ++ (⟨#[46]⟩ : ByteArray)).size + t249.size ≤ 9223372036854775807 then (if (l0_3.length : Int) > 0 then ((strings_Join.f l0_3 (⟨#[46]⟩ : ByteArray)).bind fun t250 => (if 1 + t250.size ≤ 9223372036854775807 then (if ((((t247 ++ (⟨#[46]⟩ : ByteArray)) ++ t248) ++ (⟨#[46]⟩ : ByteArray)) ++ t249).size + ((⟨#[45]⟩ : ByteArray) ++ t250).size ≤ 9223372036854775807 then (some (((((t247 ++ (⟨#[46]⟩ : ByteArray)) ++ t248) ++ (⟨#[46]⟩ : ByteArray)) ++ t249) ++ ((⟨#[45]⟩ : ByteArray) ++ t250))) else (none)) else (none))) else (some ((((t247 ++ (⟨#[46]⟩ : ByteArray)) ++ t248) ++ (⟨#[46]⟩ : ByteArray)) ++ t249))) else (none))) else (none)) else (none))) else (none))) else (some (⟨#[]⟩ : ByteArray))) = some r := H
 have A2 := Aside0.mk A20
 clear A20
 by_cases c3 : t246 = true
 ·subst c3
  have H1 : ((impl_DecText.f a0_0).bind fun t247 => (if t247.size + 1 ≤ 9223372036854775807 then ((impl_DecText.f a0_1).bind fun t248 => (if (t247 ++ (⟨#[46]⟩ : ByteArray)).size + t248.size ≤ 9223372036854775807 then (if ((t247 ++ (⟨#[46]⟩ : ByteArray)) ++ t248).size + 1 ≤ 9223372036854775807 then ((impl_DecText.f a0_2).bind fun t249 => (if (((t247 ++ (⟨#[46]⟩ : ByteArray)) ++ t248) ++ (⟨#[46]⟩ : ByteArray)).size + t249.size ≤ 9223372036854775807 then (if (l0_3.length : Int) > 0 then ((strings_Join.f l0_3 (⟨#[46]⟩ : ByteArray)).bind fun t250 => (if 1 + t250.size ≤ 9223372036854775807 then (if ((((t247 ++ (⟨#[46]⟩ : ByteArray)) ++ t248) ++ (⟨#[46]⟩ : ByteArray)) ++ t249).size + ((⟨#[45]⟩ : ByteArray) ++ t250).size ≤ 9223372036854775807 then (some (((((t247 ++ (⟨#[46]⟩ : ByteArray)) ++ t248) ++ (⟨#[46]⟩ : ByteArray)) ++ t249) ++ ((⟨#[45]⟩ : ByteArray) ++ t250))) else (none)) else (none))) else (some ((((t247 ++ (⟨#[46]⟩ : ByteArray)) ++ t248) ++ (⟨#[46]⟩ : ByteArray)) ++ t249))) else (none))) else (none)) else (none))) else (none))) = some r := by rw [if_pos rfl] at H; exact H
  clear H
  have H := H1
  clear H1
  replace H := Option.bind_eq_some_iff.mp H
  obtain ⟨t247, A40, H⟩ := H
  replace H : (if t247.size + 1 ≤ 9223372036854775807 then ((impl_DecText.f a0_1).bind fun t248 => (if (t247 ++ (⟨#[46]⟩ : ByteArray)).size + t248.size ≤ 9223372036854775807 then (if ((t247 ++ (⟨#[46]⟩ : ByteArray)) ++ t248).size + 1 ≤ 9223372036854775807 then ((impl_DecText.f a0_2).bind fun t249 => (if (((t247 ++ (⟨#[46]⟩ : ByteArray)) ++ t248) ++ (⟨#[46]⟩ : ByteArray)).size + t249.size ≤ 9223372036854775807 then (if (l0_3.length : Int) > 0 then ((strings_Join.f l0_3 (⟨#[46]⟩ : ByteArray)).bind fun t250 => (if 1 + t250.size ≤ 9223372036854775807 then (if ((((t247 ++ (⟨#[46]⟩ : ByteArray)) ++ t248) ++ (⟨#[46]⟩ : ByteArray)) ++ t249).size + ((⟨#[45]⟩ : ByteArray) ++ t250).size ≤ 9223372036854775807 then (some (((((t247 ++ (⟨#[46]⟩ : ByteArray)) ++ t248) ++ (⟨#[46]⟩ : ByteArray)) ++ t249) ++ ((⟨#[45]⟩ : ByteArray) ++ t250))) else (none)) else (none))) else (some ((((t247 ++ (⟨#[46]⟩ : ByteArray)) ++ t248) ++ (⟨#[46]⟩ : ByteArray)) ++ t249))) else (none))) else (none)) else (none))) else (none)) = some r := H
  have A4 := Aside0.mk A40
  clear A40
  by_cases c5 : t247.size + 1 ≤ 9223372036854775807
  ·rw [if_pos c5] at H
   have c5b0 := eq_true c5
   have c5b1 : decide (t247.size + 1 ≤ 9223372036854775807) = true := decide_eq_true c5
   try have c5b2 : (9223372036854775807 < t247.size + 1) = False := eq_false (Nat.not_lt.2 c5)
   obtain ⟨js6, hjs6⟩ : ∃ j_ : ByteArray, (t247 ++ (⟨#[46]⟩ : ByteArray)) = j_ := ⟨_, rfl⟩
   replace H : ((impl_DecText.f a0_1).bind fun t248 => (if (js6).size + t248.size ≤ 9223372036854775807 then (if ((js6) ++ t248).size + 1 ≤ 9223372036854775807 then ((impl_DecText.f a0_2).bind fun t249 => (if (((js6) ++ t248) ++ (⟨#[46]⟩ : ByteArray)).size + t249.size ≤ 9223372036854775807 then (if (l0_3.length : Int) > 0 then ((strings_Join.f l0_3 (⟨#[46]⟩ : ByteArray)).bind fun t250 => (if 1 + t250.size ≤ 9223372036854775807 then (if ((((js6) ++ t248) ++ (⟨#[46]⟩ : ByteArray)) ++ t249).size + ((⟨#[45]⟩ : ByteArray) ++ t250).size ≤ 9223372036854775807 then (some (((((js6) ++ t248) ++ (⟨#[46]⟩ : ByteArray)) ++ t249) ++ ((⟨#[45]⟩ : ByteArray) ++ t250))) else (none)) else (none))) else (some ((((js6) ++ t248) ++ (⟨#[46]⟩ : ByteArray)) ++ t249))) else (none))) else (none)) else (none))) = some r := by first | (rw [hjs6] at H; exact H) | (simp only [hjs6] at H ⊢; exact H)
   (try rw [hjs6] at A2)
   (try rw [hjs6] at A4)
   replace H := Option.bind_eq_some_iff.mp H
   obtain ⟨t248, A70, H⟩ := H
   replace H : (if (js6).size + t248.size ≤ 9223372036854775807 then (if ((js6) ++ t248).size + 1 ≤ 9223372036854775807 then ((impl_DecText.f a0_2).bind fun t249 => (if (((js6) ++ t248) ++ (⟨#[46]⟩ : ByteArray)).size + t249.size ≤ 9223372036854775807 then (if (l0_3.length : Int) > 0 then ((strings_Join.f l0_3 (⟨#[46]⟩ : ByteArray)).bind fun t250 => (if 1 + t250.size ≤ 9223372036854775807 then (if ((((js6) ++ t248) ++ (⟨#[46]⟩ : ByteArray)) ++ t249).size + ((⟨#[45]⟩ : ByteArray) ++ t250).size ≤ 9223372036854775807 then (some (((((js6) ++ t248) ++ (⟨#[46]⟩ : ByteArray)) ++ t249) ++ ((⟨#[45]⟩ : ByteArray) ++ t250))) else (none)) else (none))) else (some ((((js6) ++ t248) ++ (⟨#[46]⟩ : ByteArray)) ++ t249))) else (none))) else (none)) else (none)) = some r := H
   have A7 := Aside0.mk A70
   clear A70
   by_cases c8 : (js6).size + t248.size ≤ 9223372036854775807
   ·rw [if_pos c8] at H
    have c8b0 := eq_true c8
    have c8b1 : decide ((js6).size + t248.size ≤ 9223372036854775807) = true := decide_eq_true c8
    try have c8b2 : (9223372036854775807 < (js6).size + t248.size) = False := eq_false (Nat.not_lt.2 c8)
    obtain ⟨js9, hjs9⟩ : ∃ j_ : ByteArray, ((js6) ++ t248) = j_ := ⟨_, rfl⟩
    replace H : (if (js9).size + 1 ≤ 9223372036854775807 then ((impl_DecText.f a0_2).bind fun t249 => (if ((js9) ++ (⟨#[46]⟩ : ByteArray)).size + t249.size ≤ 9223372036854775807 then (if (l0_3.length : Int) > 0 then ((strings_Join.f l0_3 (⟨#[46]⟩ : ByteArray)).bind fun t250 => (if 1 + t250.size ≤ 9223372036854775807 then (if (((js9) ++ (⟨#[46]⟩ : ByteArray)) ++ t249).size + ((⟨#[45]⟩ : ByteArray) ++ t250).size ≤ 9223372036854775807 then (some ((((js9) ++ (⟨#[46]⟩ : ByteArray)) ++ t249) ++ ((⟨#[45]⟩ : ByteArray) ++ t250))) else (none)) else (none))) else (some (((js9) ++ (⟨#[46]⟩ : ByteArray)) ++ t249))) else (none))) else (none)) = some r := by first | (rw [hjs9] at H; exact H) | (simp only [hjs9] at H ⊢; exact H)
    (try rw [hjs9] at A2)
    (try rw [hjs9] at A4)
    (try rw [hjs9] at A7)
    by_cases c10 : (js9).size + 1 ≤ 9223372036854775807
    ·rw [if_pos c10] at H
     have c10b0 := eq_true c10
     have c10b1 : decide ((js9).size + 1 ≤ 9223372036854775807) = true := decide_eq_true c10
     try have c10b2 : (9223372036854775807 < (js9).size + 1) = False := eq_false (Nat.not_lt.2 c10)
     obtain ⟨js11, hjs11⟩ : ∃ j_ : ByteArray, ((js9) ++ (⟨#[46]⟩ : ByteArray)) = j_ := ⟨_, rfl⟩
     replace H : ((impl_DecText.f a0_2).bind fun t249 => (if (js11).size + t249.size ≤ 9223372036854775807 then (if (l0_3.length : Int) > 0 then ((strings_Join.f l0_3 (⟨#[46]⟩ : ByteArray)).bind fun t250 => (if 1 + t250.size ≤ 9223372036854775807 then (if ((js11) ++ t249).size + ((⟨#[45]⟩ : ByteArray) ++ t250).size ≤ 9223372036854775807 then (some (((js11) ++ t249) ++ ((⟨#[45]⟩ : ByteArray) ++ t250))) else (none)) else (none))) else (some ((js11) ++ t249))) else (none))) = some r := by first | (rw [hjs11] at H; exact H) | (simp only [hjs11] at H ⊢; exact H)
     (try rw [hjs11] at A2)
     (try rw [hjs11] at A4)
     (try rw [hjs11] at A7)
     replace H := Option.bind_eq_some_iff.mp H
     obtain ⟨t249, A120, H⟩ := H
     replace H : (if (js11).size + t249.size ≤ 9223372036854775807 then (if (l0_3.length : Int) > 0 then ((strings_Join.f l0_3 (⟨#[46]⟩ : ByteArray)).bind fun t250 => (if 1 + t250.size ≤ 9223372036854775807 then (if ((js11) ++ t249).size + ((⟨#[45]⟩ : ByteArray) ++ t250).size ≤ 9223372036854775807 then (some (((js11) ++ t249) ++ ((⟨#[45]⟩ : ByteArray) ++ t250))) else (none)) else (none))) else (some ((js11) ++ t249))) else (none)) = some r := H
     have A12 := Aside0.mk A120
     clear A120
     by_cases c13 : (js11).size + t249.size ≤ 9223372036854775807
     ·rw [if_pos c13] at H
      have c13b0 := eq_true c13
      have c13b1 : decide ((js11).size + t249.size ≤ 9223372036854775807) = true := decide_eq_true c13
      try have c13b2 : (9223372036854775807 < (js11).size + t249.size) = False := eq_false (Nat.not_lt.2 c13)
      obtain ⟨js14, hjs14⟩ : ∃ j_ : ByteArray, ((js11) ++ t249) = j_ := ⟨_, rfl⟩
      replace H : (if (l0_3.length : Int) > 0 then ((strings_Join.f l0_3 (⟨#[46]⟩ : ByteArray)).bind fun t250 => (if 1 + t250.size ≤ 9223372036854775807 then (if (js14).size + ((⟨#[45]⟩ : ByteArray) ++ t250).size ≤ 9223372036854775807 then (some ((js14) ++ ((⟨#[45]⟩ : ByteArray) ++ t250))) else (none)) else (none))) else (some js14)) = some r := by first | (rw [hjs14] at H; exact H) | (simp only [hjs14] at H ⊢; exact H)
      (try rw [hjs14] at A2)
      (try rw [hjs14] at A4)
      (try rw [hjs14] at A7)
      (try rw [hjs14] at A12)
      by_cases c15 : (l0_3.length : Int) > 0
      ·rw [if_pos c15] at H
       have c15b0 : decide (0 < (l0_3.length : Int)) = true := decide_eq_true c15
       have c15b1 : decide (0 < l0_3.length) = true := decide_eq_true (by omega)
       clear c15
       replace H := Option.bind_eq_some_iff.mp H
       obtain ⟨t250, A160, H⟩ := H
       replace H : (if 1 + t250.size ≤ 9223372036854775807 then (if (js14).size + ((⟨#[45]⟩ : ByteArray) ++ t250).size ≤ 9223372036854775807 then (some ((js14) ++ ((⟨#[45]⟩ : ByteArray) ++ t250))) else (none)) else (none)) = some r := H
       have A16 := Aside0.mk A160
       clear A160
       by_cases c17 : 1 + t250.size ≤ 9223372036854775807
       ·rw [if_pos c17] at H
        have c17b0 := eq_true c17
        have c17b1 : decide (1 + t250.size ≤ 9223372036854775807) = true := decide_eq_true c17
        try have c17b2 : (9223372036854775807 < 1 + t250.size) = False := eq_false (Nat.not_lt.2 c17)
        obtain ⟨js18, hjs18⟩ : ∃ j_ : ByteArray, ((⟨#[45]⟩ : ByteArray) ++ t250) = j_ := ⟨_, rfl⟩
        replace H : (if (js14).size + (js18).size ≤ 9223372036854775807 then (some ((js14) ++ (js18))) else (none)) = some r := by first | (rw [hjs18] at H; exact H) | (simp only [hjs18] at H ⊢; exact H)
        (try rw [hjs18] at A2)
        (try rw [hjs18] at A4)
        (try rw [hjs18] at A7)
        (try rw [hjs18] at A12)
        (try rw [hjs18] at A16)
        by_cases c19 : (js14).size + (js18).size ≤ 9223372036854775807
        ·rw [if_pos c19] at H
         have c19b0 := eq_true c19
         have c19b1 : decide ((js14).size + (js18).size ≤ 9223372036854775807) = true := decide_eq_true c19
         try have c19b2 : (9223372036854775807 < (js14).size + (js18).size) = False := eq_false (Nat.not_lt.2 c19)
         obtain ⟨js20, hjs20⟩ : ∃ j_ : ByteArray, ((js14) ++ (js18)) = j_ := ⟨_, rfl⟩
         replace H : (some js20) = some r := by first | (rw [hjs20] at H; exact H) | (simp only [hjs20] at H ⊢; exact H)
         (try rw [hjs20] at A2)
         (try rw [hjs20] at A4)
         (try rw [hjs20] at A7)
         (try rw [hjs20] at A12)
         (try rw [hjs20] at A16)
         obtain rfl := Option.some.inj H
         go_enter Tryz.func60, Tryz.ntmps60
         try go_wp2_with (first | ((with_reducible refine gate_dst (N := 1) rfl ?_); refine box_event ?hg (N := 1) ?hd (cs := #[.int .i64 a0_0, .int .i64 a0_1, .int .i64 a0_2, .slice A0_3 l0_3.length c0_3]) (t := 50) ?hr ?_; (case hd => rfl); (case hg => rfl); (case hr => first | (go_simp; done) | (go_simp; rfl)); intro gb245 hg w21 hbox hb; have n0_ := Aside0.mk (below_step zb0 hb); have n1_ := Aside0.mk (hbox); have n2_ := Aside0.mk ((by rw [hg]; exact (below_size zb0) : w.heap.size ≤ gb245)); have n3_ := Aside0.mk ((by rw [hg]; exact (below_size zb0) : w.heap.size ≤ gb245)); clear HB; have HB := n0_; have BK245 := n1_; have GW245 := n2_; have GE245 := n3_; clear n0_ n1_ n2_ n3_; clear hb hbox hg; obtain ⟨hcz22_0, hcz22_1, hcz22_2, hcz22_3, hfz22_0, hfz22_1, hfz22_2, hfz22_3⟩ := blk_4 BK245.out) | ((with_reducible refine gate_callee (f := 87) rfl ?_); refine goesL_ (some 5) rfl rfl Tryz.func87 zb6 rfl #[.agg #[.int .i64 a0_0, .int .i64 a0_1, .int .i64 a0_2, .slice A0_3 l0_3.length c0_3]] rfl zb1 ?_; (with_reducible refine (impl_VersionOk.calls k a0_0 a0_1 a0_2 _ _ l0_3 true _ ?side1 ?side2 ?side3 ?side4 A2.out).mono ?_); (case side1 => repeat (first | exact (Kd.C_below HR0_3.out HB.out) | (with_reducible refine Kd.C_alloc ?_ _) | (with_reducible refine Kd.C_drewN ?_ _) | (with_reducible refine Kd.C_drew ?_))); (case side2 => exact HC0_3.out); (case side3 => exact Glob.below HGE.out (by repeat (first | (with_reducible first | exact HB.out | apply below_alloc | apply pw_below_drewN | apply below_drew1 | refine below_set ?_ GE245.out) | exact HB.out))); (case side4 => exact Glob.below HGT.out (by repeat (first | (with_reducible first | exact HB.out | apply below_alloc | apply pw_below_drewN | apply below_drew1 | refine below_set ?_ GE245.out) | exact HB.out))); rintro e w23 ⟨rfl, hb⟩; refine ⟨_, rfl, ?_⟩; have n0_ := Aside0.mk (blk_below (g := gb245) (o := .cells #[.int .i64 a0_0, .int .i64 a0_1, .int .i64 a0_2, .slice A0_3 l0_3.length c0_3] 50 (0, 0)) (by (with_reducible repeat (first | refine bN_ ?_ _ | refine bD_ ?_ | refine bA_ ?_ _)); exact BK245.out) hb); have n1_ := Aside0.mk (below_step (by repeat (first | (with_reducible first | exact HB.out | apply below_alloc | apply pw_below_drewN | apply below_drew1 | refine below_set ?_ GE245.out) | exact HB.out)) hb); clear BK245; clear HB; have BK245 := n0_; have HB := n1_; clear n0_ n1_; (try clear hb)))
         have n0_ := Aside0.mk (blk_drew BK245.out)
         have n1_ := Aside0.mk (below_drew1 HB.out)
         clear BK245
         clear HB
         have BK245 := n0_
         have HB := n1_
         clear n0_ n1_
         refine start_ (n := 14) (S := fun w' => w'.cell? ⟨gb245, 0, none⟩ = some (.int .i64 a0_0) ∧ w'.cell? ⟨gb245, 1, none⟩ = some (.int .i64 a0_1) ∧ w'.cell? ⟨gb245, 2, none⟩ = some (.int .i64 a0_2) ∧ w'.cell? ⟨gb245, 3, none⟩ = some (.slice A0_3 l0_3.length c0_3)) (ds := []) #[false, false, false, false, false, false, false, false, false, false, false, false, false, false] zb6 rfl rfl ⟨(blk_cell BK245.out 0).trans rfl, (blk_cell BK245.out 1).trans rfl, (blk_cell BK245.out 2).trans rfl, (blk_cell BK245.out 3).trans rfl⟩ (fun hHeld => ?_); refine with_tabW impl_VersionText.tab3 impl_VersionText.bits3 (fun HT_ HW_ => ?_)
         generalize w23.drew = w24 at BK245 HB hHeld ⊢
         refine pure_ (i := 0) (N := some 7) (v := ?_) (a' := ?_) #[true, false, false, false, false, false, false, false, false, false, false, false, false, false] rfl rfl (any_of HT_.out zb6) (fun _ _ _ h => h) (Or.inl ⟨by rfl, ?_⟩) ?_ ?_
         rotate_left
         ·exact zs2
         rotate_left
         ·exact zs0
         refine pure_ (i := 4) (N := some 11) (v := ?_) (a' := ?_) #[true, false, false, false, true, false, false, false, false, false, false, false, false, false] rfl rfl (any_of HT_.out zb6) (fun _ _ _ h => h) (Or.inl ⟨by rfl, ?_⟩) ?_ ?_
         rotate_left
         ·exact zs2
         rotate_left
         ·exact zs0
         refine pure_ (i := 9) (N := some 16) (v := ?_) (a' := ?_) #[true, false, false, false, true, false, false, false, false, true, false, false, false, false] rfl rfl (any_of HT_.out zb6) (fun _ _ _ h => h) (Or.inl ⟨by rfl, ?_⟩) ?_ ?_
         rotate_left
         ·exact zs2
         rotate_left
         ·exact zs0
         refine take_ (i := 1) (N := some 8) (v := ?_) (a' := ?_) #[true, true, false, false, true, false, false, false, false, true, false, false, false, false] rfl rfl (take_ofW HT_.out HW_.out zb6) (fun _ _ _ h => h) (Or.inl ⟨by rfl, ?_⟩) hHeld ?_ ?_
         rotate_left
         ·rintro w' ⟨s0, s1, s2, s3⟩
          go_simp
          with_reducible rfl
         rotate_left
         ·exact zs0
         refine take_ (i := 5) (N := some 12) (v := ?_) (a' := ?_) #[true, true, false, false, true, true, false, false, false, true, false, false, false, false] rfl rfl (take_ofW HT_.out HW_.out zb6) (fun _ _ _ h => h) (Or.inl ⟨by rfl, ?_⟩) hHeld ?_ ?_
         rotate_left
         ·rintro w' ⟨s0, s1, s2, s3⟩
          go_simp
          with_reducible rfl
         rotate_left
         ·exact zs0
         refine take_ (i := 10) (N := some 17) (v := ?_) (a' := ?_) #[true, true, false, false, true, true, false, false, false, true, true, false, false, false] rfl rfl (take_ofW HT_.out HW_.out zb6) (fun _ _ _ h => h) (Or.inl ⟨by rfl, ?_⟩) hHeld ?_ ?_
         rotate_left
         ·rintro w' ⟨s0, s1, s2, s3⟩
          go_simp
          with_reducible rfl
         rotate_left
         ·exact zs0
         refine one_ (i := 2) (N := some 9) #[true, true, true, false, true, true, false, false, false, true, true, false, false, false] rfl rfl (one_of HT_.out zb6) (by decide) (fun K hK => ?_)
         refine goes_ Tryz.func86 zb6 rfl #[.int .i64 a0_0] (by rfl) rfl rfl zb1 ?_
         with_reducible refine (impl_DecText.calls a0_0 t247 _ ?side1 A4.out).mono ?_
         (case side1 => exact Glob.below HGT.out (by repeat (first | (with_reducible first | exact HB.out | apply below_alloc | apply pw_below_drewN | apply below_drew1 | refine below_set ?_ GE245.out) | exact HB.out)))
         rintro e w25 ⟨rfl, hb⟩
         refine ⟨_, rfl, ?_⟩
         have n0_ := Aside0.mk (blk_below (g := gb245) (o := .cells #[.int .i64 a0_0, .int .i64 a0_1, .int .i64 a0_2, .slice A0_3 l0_3.length c0_3] 50 (0, 0)) (by (with_reducible repeat (first | refine bN_ ?_ _ | refine bD_ ?_ | refine bA_ ?_ _)); exact BK245.out) hb)
         have n1_ := Aside0.mk (below_step (by repeat (first | (with_reducible first | exact HB.out | apply below_alloc | apply pw_below_drewN | apply below_drew1 | refine below_set ?_ GE245.out) | exact HB.out)) hb)
         clear BK245
         clear HB
         have BK245 := n0_
         have HB := n1_
         clear n0_ n1_
         (try clear hb)
         refine hK.out _ _ ⟨(blk_cell BK245.out 0).trans rfl, (blk_cell BK245.out 1).trans rfl, (blk_cell BK245.out 2).trans rfl, (blk_cell BK245.out 3).trans rfl⟩ (fun hHeld => ?_)
         clear hK K
         refine norm_ (a' := ?_) ?_ ?_
         rotate_left
         ·show Act.put _ (some 9) _ = _
          simp only [Act.put, List.setIfInBounds_toArray, List.set_cons_zero, List.set_cons_succ, i64_w, i32_w]
          rfl
         refine pure_ (i := 3) (N := some 10) (v := ?_) (a' := ?_) #[true, true, true, true, true, true, false, false, false, true, true, false, false, false] rfl rfl (any_of HT_.out zb6) (fun _ _ _ h => h) (Or.inl ⟨by rfl, ?_⟩) ?_ ?_
         rotate_left
         ·exact zs2
         rotate_left
         ·exact zs0
         refine one_ (i := 6) (N := some 13) #[true, true, true, true, true, true, true, false, false, true, true, false, false, false] rfl rfl (one_of HT_.out zb6) (by decide) (fun K hK => ?_)
         refine goes_ Tryz.func86 zb6 rfl #[.int .i64 a0_1] (by rfl) rfl rfl zb1 ?_
         with_reducible refine (impl_DecText.calls a0_1 t248 _ ?side1 A7.out).mono ?_
         (case side1 => exact Glob.below HGT.out (by repeat (first | (with_reducible first | exact HB.out | apply below_alloc | apply pw_below_drewN | apply below_drew1 | refine below_set ?_ GE245.out) | exact HB.out)))
         rintro e w26 ⟨rfl, hb⟩
         refine ⟨_, rfl, ?_⟩
         have n0_ := Aside0.mk (blk_below (g := gb245) (o := .cells #[.int .i64 a0_0, .int .i64 a0_1, .int .i64 a0_2, .slice A0_3 l0_3.length c0_3] 50 (0, 0)) (by (with_reducible repeat (first | refine bN_ ?_ _ | refine bD_ ?_ | refine bA_ ?_ _)); exact BK245.out) hb)
         have n1_ := Aside0.mk (below_step (by repeat (first | (with_reducible first | exact HB.out | apply below_alloc | apply pw_below_drewN | apply below_drew1 | refine below_set ?_ GE245.out) | exact HB.out)) hb)
         clear BK245
         clear HB
         have BK245 := n0_
         have HB := n1_
         clear n0_ n1_
         (try clear hb)
         refine hK.out _ _ ⟨(blk_cell BK245.out 0).trans rfl, (blk_cell BK245.out 1).trans rfl, (blk_cell BK245.out 2).trans rfl, (blk_cell BK245.out 3).trans rfl⟩ (fun hHeld => ?_)
         clear hK K
         refine norm_ (a' := ?_) ?_ ?_
         rotate_left
         ·show Act.put _ (some 13) _ = _
          simp only [Act.put, List.setIfInBounds_toArray, List.set_cons_zero, List.set_cons_succ, i64_w, i32_w]
          rfl
         refine pure_ (i := 7) (N := some 14) (v := ?_) (a' := ?_) #[true, true, true, true, true, true, true, true, false, true, true, false, false, false] rfl rfl (any_of HT_.out zb6) (fun _ _ _ h => h) (Or.inl ⟨by rfl, ?_⟩) ?_ ?_
         rotate_left
         ·exact zs2
         rotate_left
         ·exact zs0
         refine pure_ (i := 8) (N := some 15) (v := ?_) (a' := ?_) #[true, true, true, true, true, true, true, true, true, true, true, false, false, false] rfl rfl (any_of HT_.out zb6) (fun _ _ _ h => h) (Or.inl ⟨by rfl, ?_⟩) ?_ ?_
         rotate_left
         ·exact zs2
         rotate_left
         ·exact zs0
         refine one_ (i := 11) (N := some 18) #[true, true, true, true, true, true, true, true, true, true, true, true, false, false] rfl rfl (one_of HT_.out zb6) (by decide) (fun K hK => ?_)
         refine goes_ Tryz.func86 zb6 rfl #[.int .i64 a0_2] (by rfl) rfl rfl zb1 ?_
         with_reducible refine (impl_DecText.calls a0_2 t249 _ ?side1 A12.out).mono ?_
         (case side1 => exact Glob.below HGT.out (by repeat (first | (with_reducible first | exact HB.out | apply below_alloc | apply pw_below_drewN | apply below_drew1 | refine below_set ?_ GE245.out) | exact HB.out)))
         rintro e w27 ⟨rfl, hb⟩
         refine ⟨_, rfl, ?_⟩
         have n0_ := Aside0.mk (blk_below (g := gb245) (o := .cells #[.int .i64 a0_0, .int .i64 a0_1, .int .i64 a0_2, .slice A0_3 l0_3.length c0_3] 50 (0, 0)) (by (with_reducible repeat (first | refine bN_ ?_ _ | refine bD_ ?_ | refine bA_ ?_ _)); exact BK245.out) hb)
         have n1_ := Aside0.mk (below_step (by repeat (first | (with_reducible first | exact HB.out | apply below_alloc | apply pw_below_drewN | apply below_drew1 | refine below_set ?_ GE245.out) | exact HB.out)) hb)
         clear BK245
         clear HB
         have BK245 := n0_
         have HB := n1_
         clear n0_ n1_
         (try clear hb)
         refine hK.out _ _ ⟨(blk_cell BK245.out 0).trans rfl, (blk_cell BK245.out 1).trans rfl, (blk_cell BK245.out 2).trans rfl, (blk_cell BK245.out 3).trans rfl⟩ (fun hHeld => ?_)
         clear hK K
         refine norm_ (a' := ?_) ?_ ?_
         rotate_left
         ·show Act.put _ (some 18) _ = _
          simp only [Act.put, List.setIfInBounds_toArray, List.set_cons_zero, List.set_cons_succ, i64_w, i32_w]
          rfl
         refine pure_ (i := 12) (N := some 19) (v := ?_) (a' := ?_) #[true, true, true, true, true, true, true, true, true, true, true, true, true, false] rfl rfl (any_of HT_.out zb6) (fun _ _ _ h => h) (Or.inl ⟨by rfl, ?_⟩) ?_ ?_
         rotate_left
         ·exact zs2
         rotate_left
         ·exact zs0
         refine pure_ (i := 13) (N := some 3) (v := ?_) (a' := ?_) #[true, true, true, true, true, true, true, true, true, true, true, true, true, true] rfl rfl (any_of HT_.out zb6) (fun _ _ _ h => h) (Or.inl ⟨by rfl, ?_⟩) ?_ ?_
         rotate_left
         ·exact zs2
         rotate_left
         ·exact zs0
         refine done_ (done_of HT_.out zb6) ?_
         obtain ⟨hcz28_0, hcz28_1, hcz28_2, hcz28_3, hfz28_0, hfz28_1, hfz28_2, hfz28_3⟩ := blk_4 BK245.out
         try go_wp2_with (first | ((with_reducible refine gate_callee (f := 88) rfl ?_); refine goesL_ (some 27) rfl rfl Tryz.func88 zb6 rfl #[.slice A0_3 l0_3.length c0_3, .string (⟨#[46]⟩ : ByteArray)] rfl zb1 ?_; (with_reducible refine (strings_Join.calls _ _ l0_3 (⟨#[46]⟩ : ByteArray) t250 _ ?side1 ?side2 A16.out).mono ?_); (case side1 => repeat (first | exact (Kd.C_below HR0_3.out HB.out) | (with_reducible refine Kd.C_alloc ?_ _) | (with_reducible refine Kd.C_drewN ?_ _) | (with_reducible refine Kd.C_drew ?_))); (case side2 => exact HC0_3.out); rintro e w29 ⟨rfl, hb⟩; refine ⟨_, rfl, ?_⟩; have n0_ := Aside0.mk (blk_below (g := gb245) (o := .cells #[.int .i64 a0_0, .int .i64 a0_1, .int .i64 a0_2, .slice A0_3 l0_3.length c0_3] 50 (0, 0)) (by (with_reducible repeat (first | refine bN_ ?_ _ | refine bD_ ?_ | refine bA_ ?_ _)); exact BK245.out) hb); have n1_ := Aside0.mk (below_step (by repeat (first | (with_reducible first | exact HB.out | apply below_alloc | apply pw_below_drewN | apply below_drew1 | refine below_set ?_ GE245.out) | exact HB.out)) hb); clear BK245; clear HB; have BK245 := n0_; have HB := n1_; clear n0_ n1_; (try clear hb)))
         go_ret
         exact ⟨by first | rfl | (simp [errW_none, errW_some] <;> rfl) | (simp only [← hjs6, ← hjs9, ← hjs11, ← hjs14, ← hjs18, ← hjs20]; first | rfl | (simp [errW_none, errW_some] <;> rfl)) | (simp [*, errW_none, errW_some] <;> rfl), by repeat (first | (with_reducible first | exact HB.out | apply below_alloc | apply pw_below_drewN | apply below_drew1 | refine below_set ?_ GE245.out) | exact HB.out)⟩
        ·rw [if_neg c19] at H
         exact absurd H (by simp)
       ·rw [if_neg c17] at H
        exact absurd H (by simp)
      ·rw [if_neg c15] at H
       have c15b0 : decide (0 < (l0_3.length : Int)) = false := decide_eq_false c15
       have c15b1 : decide (0 < l0_3.length) = false := decide_eq_false (by omega)
       clear c15
       obtain rfl := Option.some.inj H
       go_enter Tryz.func60, Tryz.ntmps60
       try go_wp2_with (first | ((with_reducible refine gate_dst (N := 1) rfl ?_); refine box_event ?hg (N := 1) ?hd (cs := #[.int .i64 a0_0, .int .i64 a0_1, .int .i64 a0_2, .slice A0_3 l0_3.length c0_3]) (t := 50) ?hr ?_; (case hd => rfl); (case hg => rfl); (case hr => first | (go_simp; done) | (go_simp; rfl)); intro gb245 hg w30 hbox hb; have n0_ := Aside0.mk (below_step zb0 hb); have n1_ := Aside0.mk (hbox); have n2_ := Aside0.mk ((by rw [hg]; exact (below_size zb0) : w.heap.size ≤ gb245)); have n3_ := Aside0.mk ((by rw [hg]; exact (below_size zb0) : w.heap.size ≤ gb245)); clear HB; have HB := n0_; have BK245 := n1_; have GW245 := n2_; have GE245 := n3_; clear n0_ n1_ n2_ n3_; clear hb hbox hg; obtain ⟨hcz31_0, hcz31_1, hcz31_2, hcz31_3, hfz31_0, hfz31_1, hfz31_2, hfz31_3⟩ := blk_4 BK245.out) | ((with_reducible refine gate_callee (f := 87) rfl ?_); refine goesL_ (some 5) rfl rfl Tryz.func87 zb6 rfl #[.agg #[.int .i64 a0_0, .int .i64 a0_1, .int .i64 a0_2, .slice A0_3 l0_3.length c0_3]] rfl zb1 ?_; (with_reducible refine (impl_VersionOk.calls k a0_0 a0_1 a0_2 _ _ l0_3 true _ ?side1 ?side2 ?side3 ?side4 A2.out).mono ?_); (case side1 => repeat (first | exact (Kd.C_below HR0_3.out HB.out) | (with_reducible refine Kd.C_alloc ?_ _) | (with_reducible refine Kd.C_drewN ?_ _) | (with_reducible refine Kd.C_drew ?_))); (case side2 => exact HC0_3.out); (case side3 => exact Glob.below HGE.out (by repeat (first | (with_reducible first | exact HB.out | apply below_alloc | apply pw_below_drewN | apply below_drew1 | refine below_set ?_ GE245.out) | exact HB.out))); (case side4 => exact Glob.below HGT.out (by repeat (first | (with_reducible first | exact HB.out | apply below_alloc | apply pw_below_drewN | apply below_drew1 | refine below_set ?_ GE245.out) | exact HB.out))); rintro e w32 ⟨rfl, hb⟩; refine ⟨_, rfl, ?_⟩; have n0_ := Aside0.mk (blk_below (g := gb245) (o := .cells #[.int .i64 a0_0, .int .i64 a0_1, .int .i64 a0_2, .slice A0_3 l0_3.length c0_3] 50 (0, 0)) (by (with_reducible repeat (first | refine bN_ ?_ _ | refine bD_ ?_ | refine bA_ ?_ _)); exact BK245.out) hb); have n1_ := Aside0.mk (below_step (by repeat (first | (with_reducible first | exact HB.out | apply below_alloc | apply pw_below_drewN | apply below_drew1 | refine below_set ?_ GE245.out) | exact HB.out)) hb); clear BK245; clear HB; have BK245 := n0_; have HB := n1_; clear n0_ n1_; (try clear hb)))
       have n0_ := Aside0.mk (blk_drew BK245.out)
       have n1_ := Aside0.mk (below_drew1 HB.out)
       clear BK245
       clear HB
       have BK245 := n0_
       have HB := n1_
       clear n0_ n1_
       refine start_ (n := 14) (S := fun w' => w'.cell? ⟨gb245, 0, none⟩ = some (.int .i64 a0_0) ∧ w'.cell? ⟨gb245, 1, none⟩ = some (.int .i64 a0_1) ∧ w'.cell? ⟨gb245, 2, none⟩ = some (.int .i64 a0_2) ∧ w'.cell? ⟨gb245, 3, none⟩ = some (.slice A0_3 l0_3.length c0_3)) (ds := []) #[false, false, false, false, false, false, false, false, false, false, false, false, false, false] zb6 rfl rfl ⟨(blk_cell BK245.out 0).trans rfl, (blk_cell BK245.out 1).trans rfl, (blk_cell BK245.out 2).trans rfl, (blk_cell BK245.out 3).trans rfl⟩ (fun hHeld => ?_); refine with_tabW impl_VersionText.tab3 impl_VersionText.bits3 (fun HT_ HW_ => ?_)
       generalize w32.drew = w33 at BK245 HB hHeld ⊢
       refine pure_ (i := 0) (N := some 7) (v := ?_) (a' := ?_) #[true, false, false, false, false, false, false, false, false, false, false, false, false, false] rfl rfl (any_of HT_.out zb6) (fun _ _ _ h => h) (Or.inl ⟨by rfl, ?_⟩) ?_ ?_
       rotate_left
       ·exact zs2
       rotate_left
       ·exact zs0
       refine pure_ (i := 4) (N := some 11) (v := ?_) (a' := ?_) #[true, false, false, false, true, false, false, false, false, false, false, false, false, false] rfl rfl (any_of HT_.out zb6) (fun _ _ _ h => h) (Or.inl ⟨by rfl, ?_⟩) ?_ ?_
       rotate_left
       ·exact zs2
       rotate_left
       ·exact zs0
       refine pure_ (i := 9) (N := some 16) (v := ?_) (a' := ?_) #[true, false, false, false, true, false, false, false, false, true, false, false, false, false] rfl rfl (any_of HT_.out zb6) (fun _ _ _ h => h) (Or.inl ⟨by rfl, ?_⟩) ?_ ?_
       rotate_left
       ·exact zs2
       rotate_left
       ·exact zs0
       refine take_ (i := 1) (N := some 8) (v := ?_) (a' := ?_) #[true, true, false, false, true, false, false, false, false, true, false, false, false, false] rfl rfl (take_ofW HT_.out HW_.out zb6) (fun _ _ _ h => h) (Or.inl ⟨by rfl, ?_⟩) hHeld ?_ ?_
       rotate_left
       ·rintro w' ⟨s0, s1, s2, s3⟩
        go_simp
        with_reducible rfl
       rotate_left
       ·exact zs0
       refine take_ (i := 5) (N := some 12) (v := ?_) (a' := ?_) #[true, true, false, false, true, true, false, false, false, true, false, false, false, false] rfl rfl (take_ofW HT_.out HW_.out zb6) (fun _ _ _ h => h) (Or.inl ⟨by rfl, ?_⟩) hHeld ?_ ?_
       rotate_left
       ·rintro w' ⟨s0, s1, s2, s3⟩
        go_simp
        with_reducible rfl
       rotate_left
       ·exact zs0
       refine take_ (i := 10) (N := some 17) (v := ?_) (a' := ?_) #[true, true, false, false, true, true, false, false, false, true, true, false, false, false] rfl rfl (take_ofW HT_.out HW_.out zb6) (fun _ _ _ h => h) (Or.inl ⟨by rfl, ?_⟩) hHeld ?_ ?_
       rotate_left
       ·rintro w' ⟨s0, s1, s2, s3⟩
        go_simp
        with_reducible rfl
       rotate_left
       ·exact zs0
       refine one_ (i := 2) (N := some 9) #[true, true, true, false, true, true, false, false, false, true, true, false, false, false] rfl rfl (one_of HT_.out zb6) (by decide) (fun K hK => ?_)
       refine goes_ Tryz.func86 zb6 rfl #[.int .i64 a0_0] (by rfl) rfl rfl zb1 ?_
       with_reducible refine (impl_DecText.calls a0_0 t247 _ ?side1 A4.out).mono ?_
       (case side1 => exact Glob.below HGT.out (by repeat (first | (with_reducible first | exact HB.out | apply below_alloc | apply pw_below_drewN | apply below_drew1 | refine below_set ?_ GE245.out) | exact HB.out)))
       rintro e w34 ⟨rfl, hb⟩
       refine ⟨_, rfl, ?_⟩
       have n0_ := Aside0.mk (blk_below (g := gb245) (o := .cells #[.int .i64 a0_0, .int .i64 a0_1, .int .i64 a0_2, .slice A0_3 l0_3.length c0_3] 50 (0, 0)) (by (with_reducible repeat (first | refine bN_ ?_ _ | refine bD_ ?_ | refine bA_ ?_ _)); exact BK245.out) hb)
       have n1_ := Aside0.mk (below_step (by repeat (first | (with_reducible first | exact HB.out | apply below_alloc | apply pw_below_drewN | apply below_drew1 | refine below_set ?_ GE245.out) | exact HB.out)) hb)
       clear BK245
       clear HB
       have BK245 := n0_
       have HB := n1_
       clear n0_ n1_
       (try clear hb)
       refine hK.out _ _ ⟨(blk_cell BK245.out 0).trans rfl, (blk_cell BK245.out 1).trans rfl, (blk_cell BK245.out 2).trans rfl, (blk_cell BK245.out 3).trans rfl⟩ (fun hHeld => ?_)
       clear hK K
       refine norm_ (a' := ?_) ?_ ?_
       rotate_left
       ·show Act.put _ (some 9) _ = _
        simp only [Act.put, List.setIfInBounds_toArray, List.set_cons_zero, List.set_cons_succ, i64_w, i32_w]
        rfl
       refine pure_ (i := 3) (N := some 10) (v := ?_) (a' := ?_) #[true, true, true, true, true, true, false, false, false, true, true, false, false, false] rfl rfl (any_of HT_.out zb6) (fun _ _ _ h => h) (Or.inl ⟨by rfl, ?_⟩) ?_ ?_
       rotate_left
       ·exact zs2
       rotate_left
       ·exact zs0
       refine one_ (i := 6) (N := some 13) #[true, true, true, true, true, true, true, false, false, true, true, false, false, false] rfl rfl (one_of HT_.out zb6) (by decide) (fun K hK => ?_)
       refine goes_ Tryz.func86 zb6 rfl #[.int .i64 a0_1] (by rfl) rfl rfl zb1 ?_
       with_reducible refine (impl_DecText.calls a0_1 t248 _ ?side1 A7.out).mono ?_
       (case side1 => exact Glob.below HGT.out (by repeat (first | (with_reducible first | exact HB.out | apply below_alloc | apply pw_below_drewN | apply below_drew1 | refine below_set ?_ GE245.out) | exact HB.out)))
       rintro e w35 ⟨rfl, hb⟩
       refine ⟨_, rfl, ?_⟩
       have n0_ := Aside0.mk (blk_below (g := gb245) (o := .cells #[.int .i64 a0_0, .int .i64 a0_1, .int .i64 a0_2, .slice A0_3 l0_3.length c0_3] 50 (0, 0)) (by (with_reducible repeat (first | refine bN_ ?_ _ | refine bD_ ?_ | refine bA_ ?_ _)); exact BK245.out) hb)
       have n1_ := Aside0.mk (below_step (by repeat (first | (with_reducible first | exact HB.out | apply below_alloc | apply pw_below_drewN | apply below_drew1 | refine below_set ?_ GE245.out) | exact HB.out)) hb)
       clear BK245
       clear HB
       have BK245 := n0_
       have HB := n1_
       clear n0_ n1_
       (try clear hb)
       refine hK.out _ _ ⟨(blk_cell BK245.out 0).trans rfl, (blk_cell BK245.out 1).trans rfl, (blk_cell BK245.out 2).trans rfl, (blk_cell BK245.out 3).trans rfl⟩ (fun hHeld => ?_)
       clear hK K
       refine norm_ (a' := ?_) ?_ ?_
       rotate_left
       ·show Act.put _ (some 13) _ = _
        simp only [Act.put, List.setIfInBounds_toArray, List.set_cons_zero, List.set_cons_succ, i64_w, i32_w]
        rfl
       refine pure_ (i := 7) (N := some 14) (v := ?_) (a' := ?_) #[true, true, true, true, true, true, true, true, false, true, true, false, false, false] rfl rfl (any_of HT_.out zb6) (fun _ _ _ h => h) (Or.inl ⟨by rfl, ?_⟩) ?_ ?_
       rotate_left
       ·exact zs2
       rotate_left
       ·exact zs0
       refine pure_ (i := 8) (N := some 15) (v := ?_) (a' := ?_) #[true, true, true, true, true, true, true, true, true, true, true, false, false, false] rfl rfl (any_of HT_.out zb6) (fun _ _ _ h => h) (Or.inl ⟨by rfl, ?_⟩) ?_ ?_
       rotate_left
       ·exact zs2
       rotate_left
       ·exact zs0
       refine one_ (i := 11) (N := some 18) #[true, true, true, true, true, true, true, true, true, true, true, true, false, false] rfl rfl (one_of HT_.out zb6) (by decide) (fun K hK => ?_)
       refine goes_ Tryz.func86 zb6 rfl #[.int .i64 a0_2] (by rfl) rfl rfl zb1 ?_
       with_reducible refine (impl_DecText.calls a0_2 t249 _ ?side1 A12.out).mono ?_
       (case side1 => exact Glob.below HGT.out (by repeat (first | (with_reducible first | exact HB.out | apply below_alloc | apply pw_below_drewN | apply below_drew1 | refine below_set ?_ GE245.out) | exact HB.out)))
       rintro e w36 ⟨rfl, hb⟩
       refine ⟨_, rfl, ?_⟩
       have n0_ := Aside0.mk (blk_below (g := gb245) (o := .cells #[.int .i64 a0_0, .int .i64 a0_1, .int .i64 a0_2, .slice A0_3 l0_3.length c0_3] 50 (0, 0)) (by (with_reducible repeat (first | refine bN_ ?_ _ | refine bD_ ?_ | refine bA_ ?_ _)); exact BK245.out) hb)
       have n1_ := Aside0.mk (below_step (by repeat (first | (with_reducible first | exact HB.out | apply below_alloc | apply pw_below_drewN | apply below_drew1 | refine below_set ?_ GE245.out) | exact HB.out)) hb)
       clear BK245
       clear HB
       have BK245 := n0_
       have HB := n1_
       clear n0_ n1_
       (try clear hb)
       refine hK.out _ _ ⟨(blk_cell BK245.out 0).trans rfl, (blk_cell BK245.out 1).trans rfl, (blk_cell BK245.out 2).trans rfl, (blk_cell BK245.out 3).trans rfl⟩ (fun hHeld => ?_)
       clear hK K
       refine norm_ (a' := ?_) ?_ ?_
       rotate_left
       ·show Act.put _ (some 18) _ = _
        simp only [Act.put, List.setIfInBounds_toArray, List.set_cons_zero, List.set_cons_succ, i64_w, i32_w]
        rfl
       refine pure_ (i := 12) (N := some 19) (v := ?_) (a' := ?_) #[true, true, true, true, true, true, true, true, true, true, true, true, true, false] rfl rfl (any_of HT_.out zb6) (fun _ _ _ h => h) (Or.inl ⟨by rfl, ?_⟩) ?_ ?_
       rotate_left
       ·exact zs2
       rotate_left
       ·exact zs0
       refine pure_ (i := 13) (N := some 3) (v := ?_) (a' := ?_) #[true, true, true, true, true, true, true, true, true, true, true, true, true, true] rfl rfl (any_of HT_.out zb6) (fun _ _ _ h => h) (Or.inl ⟨by rfl, ?_⟩) ?_ ?_
       rotate_left
       ·exact zs2
       rotate_left
       ·exact zs0
       refine done_ (done_of HT_.out zb6) ?_
       obtain ⟨hcz37_0, hcz37_1, hcz37_2, hcz37_3, hfz37_0, hfz37_1, hfz37_2, hfz37_3⟩ := blk_4 BK245.out
       try go_wp2
       go_ret
       exact ⟨by first | rfl | (simp [errW_none, errW_some] <;> rfl) | (simp only [← hjs6, ← hjs9, ← hjs11, ← hjs14]; first | rfl | (simp [errW_none, errW_some] <;> rfl)) | (simp [*, errW_none, errW_some] <;> rfl), by repeat (first | (with_reducible first | exact HB.out | apply below_alloc | apply pw_below_drewN | apply below_drew1 | refine below_set ?_ GE245.out) | exact HB.out)⟩
     ·rw [if_neg c13] at H
      exact absurd H (by simp)
    ·rw [if_neg c10] at H
     exact absurd H (by simp)
   ·rw [if_neg c8] at H
    exact absurd H (by simp)
  ·rw [if_neg c5] at H
   exact absurd H (by simp)
 ·replace c3 := Bool.eq_false_iff.mpr c3
  subst c3
  have H1 : (some (⟨#[]⟩ : ByteArray)) = some r := by rw [if_neg (show ¬ (false = true) by decide)] at H; exact H
  clear H
  have H := H1
  clear H1
  obtain rfl := Option.some.inj H
  go_enter Tryz.func60, Tryz.ntmps60
  go_wp2_with (first | ((with_reducible refine gate_dst (N := 1) rfl ?_); refine box_event ?hg (N := 1) ?hd (cs := #[.int .i64 a0_0, .int .i64 a0_1, .int .i64 a0_2, .slice A0_3 l0_3.length c0_3]) (t := 50) ?hr ?_; (case hd => rfl); (case hg => rfl); (case hr => first | (go_simp; done) | (go_simp; rfl)); intro gb245 hg w38 hbox hb; have n0_ := Aside0.mk (below_step zb0 hb); have n1_ := Aside0.mk (hbox); have n2_ := Aside0.mk ((by rw [hg]; exact (below_size zb0) : w.heap.size ≤ gb245)); have n3_ := Aside0.mk ((by rw [hg]; exact (below_size zb0) : w.heap.size ≤ gb245)); clear HB; have HB := n0_; have BK245 := n1_; have GW245 := n2_; have GE245 := n3_; clear n0_ n1_ n2_ n3_; clear hb hbox hg; obtain ⟨hcz39_0, hcz39_1, hcz39_2, hcz39_3, hfz39_0, hfz39_1, hfz39_2, hfz39_3⟩ := blk_4 BK245.out) | ((with_reducible refine gate_callee (f := 87) rfl ?_); refine goesL_ (some 5) rfl rfl Tryz.func87 zb6 rfl #[.agg #[.int .i64 a0_0, .int .i64 a0_1, .int .i64 a0_2, .slice A0_3 l0_3.length c0_3]] rfl zb1 ?_; (with_reducible refine (impl_VersionOk.calls k a0_0 a0_1 a0_2 _ _ l0_3 false _ ?side1 ?side2 ?side3 ?side4 A2.out).mono ?_); (case side1 => repeat (first | exact (Kd.C_below HR0_3.out HB.out) | (with_reducible refine Kd.C_alloc ?_ _) | (with_reducible refine Kd.C_drewN ?_ _) | (with_reducible refine Kd.C_drew ?_))); (case side2 => exact HC0_3.out); (case side3 => exact Glob.below HGE.out (by repeat (first | (with_reducible first | exact HB.out | apply below_alloc | apply pw_below_drewN | apply below_drew1 | refine below_set ?_ GE245.out) | exact HB.out))); (case side4 => exact Glob.below HGT.out (by repeat (first | (with_reducible first | exact HB.out | apply below_alloc | apply pw_below_drewN | apply below_drew1 | refine below_set ?_ GE245.out) | exact HB.out))); rintro e w40 ⟨rfl, hb⟩; refine ⟨_, rfl, ?_⟩; have n0_ := Aside0.mk (blk_below (g := gb245) (o := .cells #[.int .i64 a0_0, .int .i64 a0_1, .int .i64 a0_2, .slice A0_3 l0_3.length c0_3] 50 (0, 0)) (by (with_reducible repeat (first | refine bN_ ?_ _ | refine bD_ ?_ | refine bA_ ?_ _)); exact BK245.out) hb); have n1_ := Aside0.mk (below_step (by repeat (first | (with_reducible first | exact HB.out | apply below_alloc | apply pw_below_drewN | apply below_drew1 | refine below_set ?_ GE245.out) | exact HB.out)) hb); clear BK245; clear HB; have BK245 := n0_; have HB := n1_; clear n0_ n1_; (try clear hb)))
  go_ret
  exact ⟨zb3, by repeat (first | (with_reducible first | exact HB.out | apply below_alloc | apply pw_below_drewN | apply below_drew1 | refine below_set ?_ GE245.out) | exact HB.out)⟩
end Go.Proofs.YtbepbfibanmhoaaGreatDoor.G

