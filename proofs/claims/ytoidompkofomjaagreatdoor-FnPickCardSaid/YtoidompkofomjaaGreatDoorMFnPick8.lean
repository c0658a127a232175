/- A part of the proof that the law FnPick answers true at every input that its row speaks of. Conditions: the row's own. -/
import Derived.Test.YtoidompkofomjaaGreatDoorOpZ
import Derived.Test.YtoidompkofomjaaGreatDoorKFnPick0
import Derived.Test.YtoidompkofomjaaGreatDoorMFnPick0
import Derived.Test.YtoidompkofomjaaGreatDoorMFnPick7
import Derived.Test.YtoidompkofomjaaGreatDoorMFnPick1
import Derived.Test.YtoidompkofomjaaGreatDoorKFnPick1
import Derived.Test.YtoidompkofomjaaGreatDoorMFnPick6
import Derived.Calls
import GoSem.Step
section
namespace Go.Proofs.YtoidompkofomjaaGreatDoor.G
open Go.RowKit Go.Proofs.YtoidompkofomjaaGreatDoorW.PrintWords Go.Proofs.YtoidompkofomjaaGreatDoorW.PrintLast Go.Proofs.YtoidompkofomjaaGreatDoorW.PrintMore
attribute [local go_sem] max2_int min2_int max_two min_two max_three min_three max_four min_four
attribute [local go_sem high] Go.Proofs.YtoidompkofomjaaGreatDoor.G.str_gtr Go.Proofs.YtoidompkofomjaaGreatDoor.G.str_leq Go.Proofs.YtoidompkofomjaaGreatDoor.G.str_geq
set_option linter.unusedVariables false
set_option linter.unusedSimpArgs false
set_option maxHeartbeats 8000000 in
set_option maxRecDepth 100000 in
theorem spec_l02List.calls (k : Nat) (g : Nat) (s0_0 : List Int) (s0_1 : Int) (s0_2 : Int) (r1 : List ByteArray) (r2 : Int) (r3 : Int) (w0 w : World) (hI : IsS55 w0 w g s0_0 s0_1 s0_2) (hB : Below w0.heap.size w0 w) (hGE : Glob FactE w0) (hGM : Glob FactM w0) (hGT : Glob FactT w0) (h : spec_l02List.f k s0_0 s0_1 s0_2 = some (r1, r2, r3)) :
  Calls Tryz.prog 17 #[.pointer (some ⟨g, 0, none⟩)] w fun e w' => ∃ v0_ : Value, e = .returned (v0_) ∧ Kd.R Kd.string 9 w' w.heap.size (fun _ => True) v0_ r1 ∧ IsS55 w0 w' g s0_0 r2 r3 ∧ Below w0.heap.size w0 w' ∧ KeepBut w w' g none := by
 have HI0 := Aside0.mk hI
 have HK := Aside0.mk (KeepBut.refl w g none)
 have HL := Aside0.mk hB.size
 clear hI
 have HW0 := Aside0.mk hB.size
 have HB := Aside0.mk hB
 clear hB
 have HGE := Aside0.mk hGE
 clear hGE
 have HGM := Aside0.mk hGM
 clear hGM
 have HGT := Aside0.mk hGT
 clear hGT
 have H : ((spec_l01Below.f s0_0 s0_1 s0_2 6).bind fun bt256 => (spec_l02List.l0 k (([] : List ByteArray)) bt256.1 0 s0_0 bt256.2.1 bt256.2.2)) = some (r1, r2, r3) := h
 clear h
 obtain ⟨y253, hy253⟩ : ∃ y_ : List ByteArray, y_ = (([] : List ByteArray)) := ⟨_, rfl⟩
 replace H : ((spec_l01Below.f s0_0 s0_1 s0_2 6).bind fun bt256 => (spec_l02List.l0 k y253 bt256.1 0 s0_0 bt256.2.1 bt256.2.2)) = some (r1, r2, r3) := by first | (rw [hy253]; with_reducible exact H) | (have H2_ := (Option.bind_some _ _).symm.trans H; rw [hy253]; with_reducible exact H2_) | (have H2_ := (Option.bind_some _ _).symm.trans H; with_reducible exact H2_) | with_reducible exact H | (rw [hy253]; exact H) | exact H
 have Ny253 := Aside0.mk hy253
 clear hy253
 replace H := Option.bind_eq_some_iff.mp H
 obtain ⟨⟨t256, t257, t258⟩, A20, H⟩ := H
 try dsimp only at H
 have A2 := Aside0.mk A20
 clear A20
 have H' := Aside0.mk H
 clear H
 go_enter Tryz.func17, Tryz.ntmps17
 go_wp2_with (first | ((with_reducible refine gate_dst (N := 6) rfl ?_); refine Kd.R_lit Kd.string _ 9 ?hg (N := 6) ?hd (xs := ([] : List ByteArray)) (inner := []) (ok := fun _ => True) (okp := fun _ => True) ?hr ?hp (fun _ hk => hk) trivial (Below.refl _ _) (Nat.le_refl _) zb26 ?_; (case hd => rfl); (case hg => rfl); (case hr => exact zb18); (case hp => exact (Reps.none _ _)); intro v254 w3 ho4 hb hg_ hnew_; clear hg_ hnew_; (first | rw [← Ny253.out] at ho4 | (simp only [Int.reduceToNat] at ho4; rw [← Ny253.out] at ho4)); have HO255 := Aside0.mk (Kd.R_lower ho4 (keep_size (w := w) (g := g) (row := none) zb3)); replace HK := Aside0.mk (KeepBut.trans zb3 (KeepBut.of_below hb g none) (.inl rfl)); replace HB := Aside0.mk (below_step zb2 hb); replace HI0 := Aside0.mk (IsS55.below zb1 hb); clear hb ho4) | ((with_reducible refine gate_callee (f := 30) rfl ?_); refine goesL_ (some 8) rfl rfl Tryz.func30 zb17 rfl #[.pointer (some ⟨g, 0, none⟩), .int .i64 6] rfl zb4 ?_; (with_reducible refine (spec_l01Below.calls g s0_0 s0_1 s0_2 6 t256 t257 t258 w0 _ ?side1 ?side2 A2.out).mono ?_); (case side1 => exact zb1); (case side2 => exact zb2); rintro e w5 ⟨rfl, hi, hb, hk⟩; refine ⟨_, rfl, ?_⟩; replace HO255 := Aside0.mk (Kd.R_mono (Kd.R_keep (IsS55.apart (show IsS55 w0 _ g s0_0 s0_1 s0_2 from zb1) (zR HO255.out) zb22) hk (fun _ h => h.2)) (fun _ h => h.1)); replace HK := Aside0.mk (KeepBut.trans zb3 hk (.inl rfl)); replace HB := Aside0.mk hb; replace HI0 := Aside0.mk hi; (try clear hb)))
 go_loopg [3, 5] k (fun kq v3 v5 w' => ∃ (x3_1 : List ByteArray) (x5_1 : Int) (x1001_1 : Int) (x1002_1 : Int), v5 = .int .i64 x5_1 ∧ Aside0 (spec_l02List.l0 kq x3_1 t256 x5_1 s0_0 x1001_1 x1002_1 = some (r1, r2, r3)) ∧ Aside0 (kq ≤ k) ∧ Aside0 (Kd.R Kd.string 9 w' w.heap.size (fun _ => True) v3 x3_1) ∧ Aside0 (IsS55 w0 w' g s0_0 x1001_1 x1002_1) ∧ Aside0 (KeepBut w w' g none) ∧ Aside0 (Below w0.heap.size w0 w'))
 case atStart => exact ⟨(y253), (0), (t257), (t258), zb10, H', ⟨Nat.le_refl _⟩, ⟨(zR HO255.out)⟩, ⟨zb1⟩, ⟨zb3⟩, ⟨zb2⟩⟩
 case round =>
  clear H'
  try clear c1
  try clear p2
  try clear c3
  obtain ⟨x3_1, x5_1, x1001_1, x1002_1, rfl, HA, HK1, HO_3, HI0, HK, HB⟩ := hrel
  cases gk with
  | zero => exact absurd HA.out (by simp [spec_l02List.l0])
  | succ k1 =>
   have H := HA.out
   clear HA
   simp only [spec_l02List.l0] at H
   by_cases c6 : x5_1 < t256
   ·rw [if_pos c6] at H
    have c6b0 : decide (x5_1 < t256) = true := decide_eq_true c6
    clear c6
    replace H := Option.bind_eq_some_iff.mp H
    obtain ⟨⟨t259, t260, t261⟩, A70, H⟩ := H
    try dsimp only at H
    have A7 := Aside0.mk A70
    clear A70
    replace H := Option.bind_eq_some_iff.mp H
    obtain ⟨⟨t262, t263, t264⟩, A80, H⟩ := H
    try dsimp only at H
    have A8 := Aside0.mk A80
    clear A80
    by_cases c9 : x3_1.length < 8796093022208
    ·rw [if_pos c9] at H
     have LMc9 := Aside0.mk c9
     clear c9
     obtain ⟨y265, hy265⟩ : ∃ y_ : List ByteArray, y_ = (x3_1 ++ [t262]) := ⟨_, rfl⟩
     replace H : (spec_l02List.l0 k1 y265 t256 (wrap64 (x5_1 + 1)) s0_0 t263 t264) = some (r1, r2, r3) := by first | (rw [hy265]; with_reducible exact H) | (have H2_ := (Option.bind_some _ _).symm.trans H; rw [hy265]; with_reducible exact H2_) | (have H2_ := (Option.bind_some _ _).symm.trans H; with_reducible exact H2_) | with_reducible exact H | (rw [hy265]; exact H) | exact H
     have Ny265 := Aside0.mk hy265
     clear hy265
     have H' := Aside0.mk H
     clear H
     go_wp2_with (first | ((with_reducible refine gate_callee (f := 32) rfl ?_); refine goesL_ (some 17) rfl rfl Tryz.func32 zb17 rfl #[.pointer (some ⟨g, 0, none⟩)] rfl zb4 ?_; (with_reducible refine (spec_l02Right.calls k1 g s0_0 x1001_1 x1002_1 t259 t260 t261 w0 _ ?side1 ?side2 ?side3 ?side4 ?side5 A7.out).mono ?_); (case side1 => exact zb1); (case side2 => exact zb2); (case side3 => exact HGE.out); (case side4 => exact HGM.out); (case side5 => exact HGT.out); rintro e w10 ⟨rfl, hi, hb, hk⟩; refine ⟨_, rfl, ?_⟩; replace HO_3 := Aside0.mk (Kd.R_mono (Kd.R_keep (IsS55.apart (show IsS55 w0 _ g s0_0 x1001_1 x1002_1 from zb1) (zR HO_3.out) zb22) hk (fun _ h => h.2)) (fun _ h => h.1)); replace HK := Aside0.mk (KeepBut.trans zb3 hk (.inl rfl)); replace HB := Aside0.mk hb; replace HI0 := Aside0.mk hi; (try clear hb)) | ((with_reducible refine gate_callee (f := 31) rfl ?_); refine goesL_ (some 18) rfl rfl Tryz.func31 zb17 rfl #[.pointer (some ⟨g, 0, none⟩), .string t259] rfl zb4 ?_; (with_reducible refine (spec_l01Bent.calls g s0_0 t260 t261 t259 t262 t263 t264 w0 _ ?side1 ?side2 A8.out).mono ?_); (case side1 => exact zb1); (case side2 => exact zb2); rintro e w11 ⟨rfl, hi, hb, hk⟩; refine ⟨_, rfl, ?_⟩; replace HO_3 := Aside0.mk (Kd.R_mono (Kd.R_keep (IsS55.apart (show IsS55 w0 _ g s0_0 t260 t261 from zb1) (zR HO_3.out) zb22) hk (fun _ h => h.2)) (fun _ h => h.1)); replace HK := Aside0.mk (KeepBut.trans zb3 hk (.inl rfl)); replace HB := Aside0.mk hb; replace HI0 := Aside0.mk hi; (try clear hb)) | ((with_reducible refine gate_builtin (b := .append) (xs := #[.tmp 14, .tmp 19]) rfl ?_); at_builtin; refine Kd.R_append Kd.string w.heap.size rfl (.tmp 14) (.tmp 19) 24 9 (.string ⟨#[]⟩) 16 rfl Tryz.underlying24 info9 rfl zb22 zb35 u3 x3_1 t262 [.string t262] (fun _ => True) (fun _ => False) rfl rfl ?aP (fun _ hk => hk.elim) ?aF ?aO (Below.refl _ _) ?aS ?aL ?_; (case aP => exact rfl); (case aF => exact (fun _ _ => trivial)); (case aO => exact (zR HO_3.out)); (case aS => exact (keep_size (w := w) (g := g) (row := none) zb3)); (case aL => have := LMc9.out; omega); intro v266 w12 ho hb hg hat; rw [← Ny265.out] at ho; replace HB := Aside0.mk (below_weaken zb2 HL.out hb); replace HI0 := Aside0.mk (IsS55.grown zb1 hg (IsS55.own_ne HI0.out HO_3.out zb22)); replace HK := Aside0.mk (KeepBut.trans zb3 (KeepBut.of_grown hg g) (Kd.R_base2 HO_3.out)); have HO267 := Aside0.mk ho; clear HO_3 ho hb hg hat))
     go_roundg k1
     case measure => have := HK1.out; omega
     case rel => exact ⟨(y265), (wrap64 (x5_1 + 1)), (t263), (t264), zb10, H', ⟨by have := HK1.out; omega⟩, ⟨(zR HO267.out)⟩, ⟨zb1⟩, ⟨zb3⟩, ⟨zb2⟩⟩
    ·rw [if_neg c9] at H
     exact absurd H zb26
   ·rw [if_neg c6] at H
    have c6b0 : decide (x5_1 < t256) = false := decide_eq_false c6
    clear c6
    simp only [Option.some.injEq, Prod.mk.injEq] at H
    obtain ⟨rfl, rfl, rfl⟩ := H
    go_wp2
    go_ret
    exact ⟨_, zb9, (zR HO_3.out), zb1, zb2, zb3⟩
set_option maxHeartbeats 8000000 in
set_option maxRecDepth 100000 in
theorem spec_ReadRange.calls (k : Nat) (a0 : ByteArray) (r1 : List (S45)) (r2 : Bool) (w : World) (hGE : Glob FactE w) (hGM : Glob FactM w) (hGT : Glob FactT w) (h : spec_ReadRange.f k a0 = some (r1, r2)) :
  Calls Tryz.prog 33 #[.string a0] w fun e w' => ∃ v0_ : Value, e = .returned (.tuple #[v0_, .bool r2]) ∧ Kd.R k45 45 w' w.heap.size (fun _ => True) v0_ r1 ∧ Below w.heap.size w w' := by
 have hu45 := Tryz.underlying45
 have HB := Aside0.mk (Below.refl w.heap.size w)
 have HGE := Aside0.mk hGE
 clear hGE
 have HGM := Aside0.mk hGM
 clear hGM
 have HGT := Aside0.mk hGT
 clear hGT
 have H : ((some (([] : List (S45)) : List (S45))).bind fun y448 => ((spec_l03Parts.f k a0).bind fun t451 => (if (a0.size : Int) > 200 then (spec_ReadRange.j0 k y448 t451 true) else (spec_ReadRange.j0 k y448 t451 (decide ((t451.length : Int) > 8)))))) = some (r1, r2) := h
 clear h
 obtain ⟨y448, hy448⟩ : ∃ y_ : List (S45), y_ = (([] : List (S45))) := ⟨_, rfl⟩
 replace H : ((spec_l03Parts.f k a0).bind fun t451 => (if (a0.size : Int) > 200 then (spec_ReadRange.j0 k y448 t451 true) else (spec_ReadRange.j0 k y448 t451 (decide ((t451.length : Int) > 8))))) = some (r1, r2) := by first | (rw [hy448]; with_reducible exact H) | (have H2_ := (Option.bind_some _ _).symm.trans H; rw [hy448]; with_reducible exact H2_) | (have H2_ := (Option.bind_some _ _).symm.trans H; with_reducible exact H2_) | with_reducible exact H | (rw [hy448]; exact H) | exact H
 have Ny448 := Aside0.mk hy448
 clear hy448
 replace H := Option.bind_eq_some_iff.mp H
 obtain ⟨t451, A20, H⟩ := H
 try dsimp only at H
 have A2 := Aside0.mk A20
 clear A20
 have HC3 := Aside0.mk H
 clear H
 go_enter Tryz.func33, Tryz.ntmps33
 go_upto_region 3 with (first | ((with_reducible refine gate_dst (N := 9) rfl ?_); (try (refine gate_guard (by rfl) ?_; dsimp only)); refine Kd.R_lit k45 _ 45 ?hg (N := 9) ?hd (xs := ([] : List (S45))) (inner := []) (ok := fun _ => True) (okp := fun _ => True) ?hr ?hp (fun _ hk => hk) trivial (Below.refl _ _) (Nat.le_refl _) zb26 ?_; (case hd => rfl); (case hg => rfl); (case hr => exact zb18); (case hp => exact (Reps.none _ _)); intro v449 w4 ho5 hb hg_ hnew_; clear hg_ hnew_; (first | rw [← Ny448.out] at ho5 | (simp only [Int.reduceToNat] at ho5; rw [← Ny448.out] at ho5)); have HO450 := Aside0.mk (Kd.R_lower ho5 (below_size zb7)); replace HB := Aside0.mk (below_step zb7 hb); clear hb ho5) | ((with_reducible refine gate_callee (f := 57) rfl ?_); refine goesL_ (some 11) rfl rfl Tryz.func57 zb17 rfl #[.string a0] rfl zb4 ?_; (with_reducible refine (spec_l03Parts.calls k a0 t451 _ A2.out).mono ?_); rintro e w6 ⟨v452, rfl, ho0, hb⟩; refine ⟨_, rfl, ?_⟩; replace HO450 := Aside0.mk (Kd.R_below (zR HO450.out) hb); have HO453 := Aside0.mk (Kd.R_lower ho0 (below_size zb7)); replace HB := Aside0.mk (below_step zb7 hb); (try clear hb); (try clear ho0)))
 (try simp only [Act.put, List.setIfInBounds_toArray, List.set_cons_zero, List.set_cons_succ])
 go_cut [19] (fun v19 wc => ∃ (kq : Nat) (x19_2 : Bool), v19 = .bool x19_2 ∧ Aside0 (spec_ReadRange.j0 kq y448 t451 x19_2 = some (r1, r2)) ∧ Aside0 (kq ≤ k) ∧ Aside0 (Kd.R k45 45 wc w.heap.size (fun _ => True) v449 y448) ∧ Aside0 (Kd.R Kd.string 9 wc w.heap.size (fun _ => True) v452 t451) ∧ Aside0 (Below w.heap.size w wc))
 case first =>
  have H := HC3.out
  clear HC3
  by_cases c7 : (a0.size : Int) > 200
  ·rw [if_pos c7] at H
   have c7b0 : decide (200 < (a0.size : Int)) = true := decide_eq_true c7
   have c7b1 : decide (200 < a0.size) = true := decide_eq_true zb35
   clear c7
   (first | rw [c7b0] | (simp only [i64_w, i32_w]; rw [c7b0]) | skip)
   have H' := Aside0.mk H
   clear H
   go_wp2
   go_meet
   case rel => exact ⟨_, (true), zb10, H', ⟨zb31⟩, ⟨(zR HO450.out)⟩, ⟨(zR HO453.out)⟩, ⟨zb7⟩⟩
  ·rw [if_neg c7] at H
   have c7b0 : decide (200 < (a0.size : Int)) = false := decide_eq_false c7
   have c7b1 : decide (200 < a0.size) = false := decide_eq_false zb35
   clear c7
   (first | rw [c7b0] | (simp only [i64_w, i32_w]; rw [c7b0]) | skip)
   have H' := Aside0.mk H
   clear H
   obtain ⟨Ao8, co8, eo8⟩ := Kd.R_slice HO453.out
   subst eo8
   go_wp2
   go_meet
   case rel => exact ⟨_, (decide ((t451.length : Int) > 8)), zb10, H', ⟨zb31⟩, ⟨(zR HO450.out)⟩, ⟨(zR HO453.out)⟩, ⟨zb7⟩⟩
 case rest =>
  clear HC3
  try clear p2
  try clear c3
  try clear c5
  try clear c7
  try clear c7b0
  try clear c7b1
  obtain ⟨kq, x19_2, rfl, HA, HJ2, HO_4, HO_5, HB⟩ := hcut
  cases kq with
  | zero => exact absurd HA.out (by simp [spec_ReadRange.j0])
  | succ kj2 =>
   have H := HA.out
   clear HA
   simp only [spec_ReadRange.j0] at H
   by_cases c9 : x19_2 = true
   ·subst c9
    rw [if_pos rfl] at H
    simp only [Option.some.injEq, Prod.mk.injEq] at H
    obtain ⟨rfl, rfl⟩ := H
    go_wp2
    go_ret2
    exact ⟨_, zb9, (zR HO_4.out), zb7⟩
   ·replace c9 := Bool.eq_false_iff.mpr c9
    subst c9
    rw [if_neg (show ¬ (false = true) by decide)] at H
    have H' := Aside0.mk H
    clear H
    go_wp2
    go_loopg [4, 6] kj2 (fun kq v4 v6 w' => ∃ (x4_2 : List (S45)) (x6_2 : Int), v6 = .int .i64 x6_2 ∧ Aside0 (spec_ReadRange.l0 kq x4_2 t451 x6_2 = some (r1, r2)) ∧ Aside0 (kq ≤ kj2) ∧ Aside0 (Kd.R k45 45 w' w.heap.size (fun _ => True) v4 x4_2) ∧ Aside0 (Kd.R Kd.string 9 w' w.heap.size (fun _ => True) v452 t451) ∧ Aside0 (Below w.heap.size w w'))
    case atStart => exact ⟨(y448), (0), zb10, H', ⟨Nat.le_refl _⟩, ⟨(zR HO_4.out)⟩, ⟨(zR HO_5.out)⟩, ⟨zb7⟩⟩
    case round =>
     clear H'
     try clear p2
     try clear c3
     try clear c5
     try clear c7
     try clear c7b0
     try clear c7b1
     try clear c9
     try clear p2
     obtain ⟨x4_2, x6_2, rfl, HA, HK2, HO_4, HO_5, HB⟩ := hrel
     cases gk with
     | zero => exact absurd HA.out (by simp [spec_ReadRange.l0])
     | succ k2 =>
      have H := HA.out
      clear HA
      simp only [spec_ReadRange.l0] at H
      by_cases c10 : x6_2 < (t451.length : Int)
      ·rw [if_pos c10] at H
       have c10b0 : decide (x6_2 < (t451.length : Int)) = true := decide_eq_true c10
       clear c10
       by_cases c11 : 0 ≤ x6_2
       ·rw [if_pos c11] at H
        have c11b0 : decide (0 ≤ x6_2) = true := decide_eq_true c11
        clear c11
        replace H := Option.bind_eq_some_iff.mp H
        obtain ⟨⟨t455, t456, t457⟩, A120, H⟩ := H
        try dsimp only at H
        have A12 := Aside0.mk A120
        clear A120
        by_cases c13 : t457 = true
        ·subst c13
         rw [if_pos rfl] at H
         by_cases c14 : x4_2.length < 4398046511104
         ·rw [if_pos c14] at H
          have LMc14 := Aside0.mk c14
          clear c14
          obtain ⟨y459, hy459⟩ : ∃ y_ : List (S45), y_ = (x4_2 ++ [(⟨t455, t456⟩ : S45)]) := ⟨_, rfl⟩
          replace H : (spec_ReadRange.l0 k2 y459 t451 (wrap64 (x6_2 + 1))) = some (r1, r2) := by first | (rw [hy459]; with_reducible exact H) | (have H2_ := (Option.bind_some _ _).symm.trans H; rw [hy459]; with_reducible exact H2_) | (have H2_ := (Option.bind_some _ _).symm.trans H; with_reducible exact H2_) | with_reducible exact H | (rw [hy459]; exact H) | exact H
          have Ny459 := Aside0.mk hy459
          clear hy459
          have H' := Aside0.mk H
          clear H
          obtain ⟨Ao15, co15, eo15⟩ := Kd.R_slice HO_5.out
          subst eo15
          have p454 : 0 ≤ (x6_2 : Int) := of_decide_eq_true zb19
          have q454 : x6_2 < (t451.length : Int) := of_decide_eq_true zb19
          obtain ⟨ad454, e454, hx454_0⟩ := Kd.at_string (Kd.R_reads' HO_5.out).2.2 x6_2 p454 q454
          cases e454
          replace p454 := eq_true p454
          replace q454 := eq_true q454
          go_wp2_with (first | ((with_reducible refine gate_callee (f := 58) rfl ?_); refine goesL_ (some 32) rfl rfl Tryz.func58 zb17 rfl #[.string (rdOf ByteArray.empty t451 x6_2)] rfl zb4 ?_; (with_reducible refine (spec_l03Part.calls k2 (rdOf ByteArray.empty t451 x6_2) t455 t456 true _ ?side1 ?side2 ?side3 A12.out).mono ?_); (case side1 => exact Glob.below HGE.out zb7); (case side2 => exact Glob.below HGM.out zb7); (case side3 => exact Glob.below HGT.out zb7); rintro e w16 ⟨rfl, hb⟩; refine ⟨_, rfl, ?_⟩; replace HO_4 := Aside0.mk (Kd.R_below (zR HO_4.out) hb); replace HO_5 := Aside0.mk (Kd.R_below (zR HO_5.out) hb); replace HB := Aside0.mk (below_step zb7 hb); (try clear hb)) | ((with_reducible refine gate_dst (N := 7) rfl ?_); (try (refine gate_guard (by rfl) ?_; dsimp only)); refine box_event ?hg (N := 7) ?hd (cs := #[.string (⟨#[]⟩ : ByteArray), .string (⟨#[]⟩ : ByteArray)]) (t := 45) ?hr ?_; (case hd => rfl); (case hg => rfl); (case hr => exact zb18); intro gb458 hg w17 hbox hb; replace HO_4 := Aside0.mk (Kd.R_below (Kd.R_elderB (zR HO_4.out) gb458 (Nat.le_of_eq hg.symm)) hb); replace HO_5 := Aside0.mk (Kd.R_below (zR HO_5.out) hb); have BK458 := Aside0.mk hbox; have GW458 := Aside0.mk ((by rw [hg]; exact (below_size zb7) : w.heap.size ≤ gb458)); have GE458 := Aside0.mk ((by rw [hg]; exact (below_size zb7) : w.heap.size ≤ gb458)); replace HB := Aside0.mk (below_step zb7 hb); clear hb hbox hg; have hcz18_0 : w17.cell? ⟨gb458, 0, none⟩ = some (.string (⟨#[]⟩ : ByteArray)) := (blk_cell BK458.out 0).trans rfl; have hcz18_1 : w17.cell? ⟨gb458, 1, none⟩ = some (.string (⟨#[]⟩ : ByteArray)) := (blk_cell BK458.out 1).trans rfl; have hfz18_0 := blk_frozen BK458.out 0; have hfz18_1 := blk_frozen BK458.out 1) | ((with_reducible refine gate_builtin (b := .append) (xs := #[.tmp 38, .tmp 40]) rfl ?_); (try (refine gate_guard (by rfl) ?_; dsimp only)); at_builtin; refine Kd.R_append k45 (w0 := w) w.heap.size rfl (.tmp 38) (.tmp 40) 25 45 (.agg #[(.string ⟨#[]⟩), (.string ⟨#[]⟩)]) 32 rfl Tryz.underlying25 info45 rfl zb22 zb35 u4 x4_2 (⟨t455, t456⟩ : S45) [.string t455, .string t456] (fun k_ => k_ ≠ gb458) (fun _ => False) rfl zb18 ?aP (fun _ hk => hk.elim) ?aF ?aO ?aB ?aS ?aL ?_; (case aP => exact k45_mkM _ _ _ (⟨t455, t456⟩ : S45)); (case aB => exact zb24); (case aF => exact (fun k_ hk => Kd.freshB (g := gb458) (o := .cells #[.string t455, .string t456] 45 (0, 0)) zb13 k_ hk)); (case aO => exact (zR (Kd.R_mono (Kd.R_far (p := ⟨gb458, 1, none⟩) (Kd.R_far (p := ⟨gb458, 0, none⟩) (Kd.R_mono HO_4.out (fun k_ hk => (⟨hk, hk.2⟩ : _ ∧ k_ ≠ gb458))) (fun _ hk => hk.2) (.string t455)) (fun _ hk => hk.2) (.string t456)) (fun _ hk => hk.1.2)))); (case aS => exact (below_size zb24)); (case aL => have := LMc14.out; omega); intro v460 w19 ho hb hg hat; rw [← Ny459.out] at ho; replace HO_5 := Aside0.mk (Kd.R_over' (zR (Kd.R_mono (Kd.R_far (p := ⟨gb458, 1, none⟩) (Kd.R_far (p := ⟨gb458, 0, none⟩) (Kd.R_types HO_5.out BK458.out zb22) (fun _ hk => hk.2) (.string t455)) (fun _ hk => hk.2) (.string t456)) (fun _ h_ => h_.1))) (Kd.R_typed (zR (Kd.R_mono (Kd.R_far (p := ⟨gb458, 1, none⟩) (Kd.R_far (p := ⟨gb458, 0, none⟩) (Kd.R_mono HO_4.out (fun k_ hk => (⟨hk, hk.2⟩ : _ ∧ k_ ≠ gb458))) (fun _ hk => hk.2) (.string t455)) (fun _ hk => hk.2) (.string t456)) (fun _ h_ => h_.1)))) zb22 hg); replace BK458 := Aside0.mk (blk_grown (g := gb458) (o := .cells #[.string t455, .string t456] 45 (0, 0)) zb13 hg (Kd.R_away HO_4.out (fun _ hk => hk.2))); replace HB := Aside0.mk hb; have HO461 := Aside0.mk ho; clear HO_4 ho hb hg hat))
          go_roundg k2
          case measure => have := HJ2.out; have := HK2.out; omega
          case rel => exact ⟨(y459), (wrap64 (x6_2 + 1)), zb10, H', ⟨by have := HJ2.out; have := HK2.out; omega⟩, ⟨(zR (Kd.R_mono HO461.out (fun _ hk => trivial)))⟩, ⟨(zR HO_5.out)⟩, ⟨zb24⟩⟩
         ·rw [if_neg c14] at H
          exact absurd H zb26
        ·replace c13 := Bool.eq_false_iff.mpr c13
         subst c13
         rw [if_neg (show ¬ (false = true) by decide)] at H
         obtain ⟨y462, hy462⟩ : ∃ y_ : List (S45), y_ = (([] : List (S45))) := ⟨_, rfl⟩
         replace H : (some (y462, false)) = some (r1, r2) := by first | (rw [hy462]; with_reducible exact H) | (have H2_ := (Option.bind_some _ _).symm.trans H; rw [hy462]; with_reducible exact H2_) | (have H2_ := (Option.bind_some _ _).symm.trans H; with_reducible exact H2_) | with_reducible exact H | (rw [hy462]; exact H) | exact H
         have Ny462 := Aside0.mk hy462
         clear hy462
         simp only [Option.some.injEq, Prod.mk.injEq] at H
         obtain ⟨rfl, rfl⟩ := H
         obtain ⟨Ao20, co20, eo20⟩ := Kd.R_slice HO_5.out
         subst eo20
         have p454 : 0 ≤ (x6_2 : Int) := of_decide_eq_true zb19
         have q454 : x6_2 < (t451.length : Int) := of_decide_eq_true zb19
         obtain ⟨ad454, e454, hx454_0⟩ := Kd.at_string (Kd.R_reads' HO_5.out).2.2 x6_2 p454 q454
         cases e454
         replace p454 := eq_true p454
         replace q454 := eq_true q454
         go_wp2_with (first | ((with_reducible refine gate_callee (f := 58) rfl ?_); refine goesL_ (some 32) rfl rfl Tryz.func58 zb17 rfl #[.string (rdOf ByteArray.empty t451 x6_2)] rfl zb4 ?_; (with_reducible refine (spec_l03Part.calls k2 (rdOf ByteArray.empty t451 x6_2) t455 t456 false _ ?side1 ?side2 ?side3 A12.out).mono ?_); (case side1 => exact Glob.below HGE.out zb7); (case side2 => exact Glob.below HGM.out zb7); (case side3 => exact Glob.below HGT.out zb7); rintro e w21 ⟨rfl, hb⟩; refine ⟨_, rfl, ?_⟩; replace HO_4 := Aside0.mk (Kd.R_below (zR HO_4.out) hb); replace HO_5 := Aside0.mk (Kd.R_below (zR HO_5.out) hb); replace HB := Aside0.mk (below_step zb7 hb); (try clear hb)) | ((with_reducible refine gate_dst (N := 7) rfl ?_); (try (refine gate_guard (by rfl) ?_; dsimp only)); refine box_event ?hg (N := 7) ?hd (cs := #[.string (⟨#[]⟩ : ByteArray), .string (⟨#[]⟩ : ByteArray)]) (t := 45) ?hr ?_; (case hd => rfl); (case hg => rfl); (case hr => exact zb18); intro gb458 hg w22 hbox hb; replace HO_4 := Aside0.mk (Kd.R_below (Kd.R_elderB (zR HO_4.out) gb458 (Nat.le_of_eq hg.symm)) hb); replace HO_5 := Aside0.mk (Kd.R_below (zR HO_5.out) hb); have BK458 := Aside0.mk hbox; have GW458 := Aside0.mk ((by rw [hg]; exact (below_size zb7) : w.heap.size ≤ gb458)); have GE458 := Aside0.mk ((by rw [hg]; exact (below_size zb7) : w.heap.size ≤ gb458)); replace HB := Aside0.mk (below_step zb7 hb); clear hb hbox hg; have hcz23_0 : w22.cell? ⟨gb458, 0, none⟩ = some (.string (⟨#[]⟩ : ByteArray)) := (blk_cell BK458.out 0).trans rfl; have hcz23_1 : w22.cell? ⟨gb458, 1, none⟩ = some (.string (⟨#[]⟩ : ByteArray)) := (blk_cell BK458.out 1).trans rfl; have hfz23_0 := blk_frozen BK458.out 0; have hfz23_1 := blk_frozen BK458.out 1) | ((with_reducible refine gate_dst (N := 37) rfl ?_); (try (refine gate_guard (by rfl) ?_; dsimp only)); refine Kd.R_lit k45 _ 45 ?hg (N := 37) ?hd (xs := ([] : List (S45))) (inner := []) (ok := fun _ => True) (okp := fun _ => True) ?hr ?hp (fun _ hk => hk) trivial (Below.refl _ _) (Nat.le_refl _) zb26 ?_; (case hd => rfl); (case hg => rfl); (case hr => exact zb18); (case hp => exact (Reps.none _ _)); intro v463 w24 ho25 hb hg_ hnew_; clear hg_ hnew_; (first | rw [← Ny462.out] at ho25 | (simp only [Int.reduceToNat] at ho25; rw [← Ny462.out] at ho25)); replace HO_5 := Aside0.mk (Kd.R_below (zR (Kd.R_mono (Kd.R_far (p := ⟨gb458, 1, none⟩) (Kd.R_far (p := ⟨gb458, 0, none⟩) (Kd.R_types HO_5.out BK458.out zb22) (fun _ hk => hk.2) (.string t455)) (fun _ hk => hk.2) (.string t456)) (fun _ h_ => h_.1))) hb); have HO464 := Aside0.mk (Kd.R_lower (Kd.R_newB (Kd.R_new' ho25 (Kd.R_lt (zR (Kd.R_mono (Kd.R_far (p := ⟨gb458, 1, none⟩) (Kd.R_far (p := ⟨gb458, 0, none⟩) (Kd.R_mono HO_4.out (fun k_ hk => (⟨hk, hk.2⟩ : _ ∧ k_ ≠ gb458))) (fun _ hk => hk.2) (.string t455)) (fun _ hk => hk.2) (.string t456)) (fun _ h_ => h_.1))))) (g := gb458) (o := .cells #[.string t455, .string t456] 45 (0, 0)) zb13) (below_size zb24)); replace HO_4 := Aside0.mk (Kd.R_elder' (zR (Kd.R_mono (Kd.R_far (p := ⟨gb458, 1, none⟩) (Kd.R_far (p := ⟨gb458, 0, none⟩) (Kd.R_mono HO_4.out (fun k_ hk => (⟨hk, hk.2⟩ : _ ∧ k_ ≠ gb458))) (fun _ hk => hk.2) (.string t455)) (fun _ hk => hk.2) (.string t456)) (fun _ h_ => h_.1))) (Kd.R_base ho25) hb); replace BK458 := Aside0.mk (blk_below (g := gb458) (o := .cells #[.string t455, .string t456] 45 (0, 0)) zb13 hb); replace HB := Aside0.mk (below_step zb24 hb); clear hb ho25))
         go_ret2
         exact ⟨_, zb9, (zR (Kd.R_mono HO464.out (fun _ hk => trivial))), zb24⟩
       ·rw [if_neg c11] at H
        exact absurd H zb26
      ·rw [if_neg c10] at H
       have c10b0 : decide (x6_2 < (t451.length : Int)) = false := decide_eq_false c10
       clear c10
       simp only [Option.some.injEq, Prod.mk.injEq] at H
       obtain ⟨rfl, rfl⟩ := H
       obtain ⟨Ao26, co26, eo26⟩ := Kd.R_slice HO_5.out
       subst eo26
       go_wp2
       go_ret2
       exact ⟨_, zb9, (zR HO_4.out), zb7⟩
set_option maxHeartbeats 8000000 in
set_option maxRecDepth 100000 in
theorem spec_l03Text.calls (k : Nat) (g : Nat) (s0_0 : List Int) (s0_1 : Int) (s0_2 : Int) (r1 : ByteArray) (r2 : Int) (r3 : Int) (w0 w : World) (hI : IsS55 w0 w g s0_0 s0_1 s0_2) (hB : Below w0.heap.size w0 w) (hGE : Glob FactE w0) (hGM : Glob FactM w0) (hGT : Glob FactT w0) (h : spec_l03Text.f k s0_0 s0_1 s0_2 = some (r1, r2, r3)) :
  Calls Tryz.prog 34 #[.pointer (some ⟨g, 0, none⟩)] w fun e w' => e = .returned (.string r1) ∧ IsS55 w0 w' g s0_0 r2 r3 ∧ Below w0.heap.size w0 w' ∧ KeepBut w w' g none := by
 have HI0 := Aside0.mk hI
 have HK := Aside0.mk (KeepBut.refl w g none)
 have HL := Aside0.mk hB.size
 clear hI
 have HW0 := Aside0.mk hB.size
 have HB := Aside0.mk hB
 clear hB
 have HGE := Aside0.mk hGE
 clear hGE
 have HGM := Aside0.mk hGM
 clear hGM
 have HGT := Aside0.mk hGT
 clear hGT
 have H : ((spec_l01Below.f s0_0 s0_1 s0_2 3).bind fun bt465 => ((spec_l01Once.f s0_0 bt465.2.1 bt465.2.2 16).bind fun bt468 => (if bt468.1 = true then ((spec_l01Below.f s0_0 bt468.2.1 bt468.2.2 2).bind fun bt471 => (spec_l03Text.j0 k (⟨#[]⟩ : ByteArray) (wrap64 (8 + bt471.1)) s0_0 bt471.2.1 bt471.2.2)) else (spec_l03Text.j0 k (⟨#[]⟩ : ByteArray) (wrap64 (1 + bt465.1)) s0_0 bt468.2.1 bt468.2.2)))) = some (r1, r2, r3) := h
 clear h
 replace H := Option.bind_eq_some_iff.mp H
 obtain ⟨⟨t465, t466, t467⟩, A20, H⟩ := H
 try dsimp only at H
 have A2 := Aside0.mk A20
 clear A20
 replace H := Option.bind_eq_some_iff.mp H
 obtain ⟨⟨t468, t469, t470⟩, A30, H⟩ := H
 try dsimp only at H
 have A3 := Aside0.mk A30
 clear A30
 have HC4 := Aside0.mk H
 clear H
 go_enter Tryz.func34, Tryz.ntmps34
 go_upto_if 10 with (first | ((with_reducible refine gate_callee (f := 30) rfl ?_); refine goesL_ (some 7) rfl rfl Tryz.func30 zb17 rfl #[.pointer (some ⟨g, 0, none⟩), .int .i64 3] rfl zb4 ?_; (with_reducible refine (spec_l01Below.calls g s0_0 s0_1 s0_2 3 t465 t466 t467 w0 _ ?side1 ?side2 A2.out).mono ?_); (case side1 => exact zb1); (case side2 => exact zb2); rintro e w5 ⟨rfl, hi, hb, hk⟩; refine ⟨_, rfl, ?_⟩; replace HK := Aside0.mk (KeepBut.trans zb3 hk (.inl rfl)); replace HB := Aside0.mk hb; replace HI0 := Aside0.mk hi; (try clear hb); (try clear hb2); (try clear hk); (try clear hi)) | ((with_reducible refine gate_callee (f := 35) rfl ?_); refine goesL_ (some 10) rfl rfl Tryz.func35 zb17 rfl #[.pointer (some ⟨g, 0, none⟩), .int .i64 16] rfl zb4 ?_; (with_reducible refine (spec_l01Once.calls g s0_0 t466 t467 16 t468 t469 t470 w0 _ ?side1 ?side2 A3.out).mono ?_); (case side1 => exact zb1); (case side2 => exact zb2); rintro e w6 ⟨rfl, hi, hb, hk⟩; refine ⟨_, rfl, ?_⟩; replace HK := Aside0.mk (KeepBut.trans zb3 hk (.inl rfl)); replace HB := Aside0.mk hb; replace HI0 := Aside0.mk hi; (try clear hb); (try clear hb2); (try clear hk); (try clear hi)))
 (try simp only [Act.put, List.setIfInBounds_toArray, List.set_cons_zero, List.set_cons_succ])
 go_cut [4] (fun v4 wc => ∃ (kq : Nat) (x4_3 : Int) (x1001_3 : Int) (x1002_3 : Int), v4 = .int .i64 x4_3 ∧ Aside0 (spec_l03Text.j0 kq (⟨#[]⟩ : ByteArray) x4_3 s0_0 x1001_3 x1002_3 = some (r1, r2, r3)) ∧ Aside0 (kq ≤ k) ∧ Aside0 (IsS55 w0 wc g s0_0 x1001_3 x1002_3) ∧ Aside0 (KeepBut w wc g none) ∧ Aside0 (Below w0.heap.size w0 wc))
 case first =>
  have H := HC4.out
  clear HC4
  by_cases c7 : t468 = true
  ·subst c7
   rw [if_pos rfl] at H
   replace H := Option.bind_eq_some_iff.mp H
   obtain ⟨⟨t471, t472, t473⟩, A80, H⟩ := H
   try dsimp only at H
   have A8 := Aside0.mk A80
   clear A80
   have H' := Aside0.mk H
   clear H
   go_wp2_with (first | ((with_reducible refine gate_callee (f := 30) rfl ?_); refine goesL_ (some 12) rfl rfl Tryz.func30 zb17 rfl #[.pointer (some ⟨g, 0, none⟩), .int .i64 2] rfl zb4 ?_; (with_reducible refine (spec_l01Below.calls g s0_0 t469 t470 2 t471 t472 t473 w0 _ ?side1 ?side2 A8.out).mono ?_); (case side1 => exact zb1); (case side2 => exact zb2); rintro e w9 ⟨rfl, hi, hb, hk⟩; refine ⟨_, rfl, ?_⟩; replace HK := Aside0.mk (KeepBut.trans zb3 hk (.inl rfl)); replace HB := Aside0.mk hb; replace HI0 := Aside0.mk hi; (try clear hb); (try clear hb2); (try clear hk); (try clear hi)))
   go_meet
   case rel => exact ⟨_, (wrap64 (8 + t471)), (t472), (t473), zb10, H', ⟨zb31⟩, ⟨zb1⟩, ⟨zb3⟩, ⟨zb2⟩⟩
  ·replace c7 := Bool.eq_false_iff.mpr c7
   subst c7
   rw [if_neg (show ¬ (false = true) by decide)] at H
   have H' := Aside0.mk H
   clear H
   go_wp2
   go_meet
   case rel => exact ⟨_, (wrap64 (1 + t465)), (t469), (t470), zb10, H', ⟨zb31⟩, ⟨zb1⟩, ⟨zb3⟩, ⟨zb2⟩⟩
 case rest =>
  clear HC4
  try clear p2
  try clear c3
  try clear p6
  try clear c7
  obtain ⟨kq, x4_3, x1001_3, x1002_3, rfl, HA, HJ3, HI0, HK, HB⟩ := hcut
  cases kq with
  | zero => exact absurd HA.out (by simp [spec_l03Text.j0])
  | succ kj3 =>
   have H := HA.out
   clear HA
   simp only [spec_l03Text.j0] at H
   have H' := Aside0.mk H
   clear H
   go_wp2
   go_loopg [3, 5] kj3 (fun kq v3 v5 w' => ∃ (x3_2 : ByteArray) (x5_2 : Int) (x1001_2 : Int) (x1002_2 : Int), v3 = .string x3_2 ∧ v5 = .int .i64 x5_2 ∧ Aside0 (spec_l03Text.l0 kq x3_2 x4_3 x5_2 s0_0 x1001_2 x1002_2 = some (r1, r2, r3)) ∧ Aside0 (kq ≤ kj3) ∧ Aside0 (IsS55 w0 w' g s0_0 x1001_2 x1002_2) ∧ Aside0 (KeepBut w w' g none) ∧ Aside0 (Below w0.heap.size w0 w'))
   case atStart => exact ⟨((⟨#[]⟩ : ByteArray)), (0), (x1001_3), (x1002_3), zb10, zb10, H', ⟨Nat.le_refl _⟩, ⟨zb1⟩, ⟨zb3⟩, ⟨zb2⟩⟩
   case round =>
    clear H'
    try clear p2
    try clear c3
    try clear p6
    try clear c7
    try clear p2
    try clear p6
    obtain ⟨x3_2, x5_2, x1001_2, x1002_2, rfl, rfl, HA, HK2, HI0, HK, HB⟩ := hrel
    cases gk with
    | zero => exact absurd HA.out (by simp [spec_l03Text.l0])
    | succ k2 =>
     have H := HA.out
     clear HA
     simp only [spec_l03Text.l0] at H
     by_cases c10 : x5_2 < x4_3
     ·rw [if_pos c10] at H
      have c10b0 : decide (x5_2 < x4_3) = true := decide_eq_true c10
      clear c10
      have HC11 := Aside0.mk H
      clear H
      go_upto_if 20 with (fail)
      go_cut [3] (fun v3 wc => ∃ (kq : Nat) (x3_10 : ByteArray), v3 = .string x3_10 ∧ Aside0 (spec_l03Text.j2 kq x3_10 x4_3 x5_2 s0_0 x1001_2 x1002_2 = some (r1, r2, r3)) ∧ Aside0 (kq ≤ k2) ∧ Aside0 (IsS55 w0 wc g s0_0 x1001_2 x1002_2) ∧ Aside0 (KeepBut w wc g none) ∧ Aside0 (Below w0.heap.size w0 wc))
      case first =>
       have H := HC11.out
       clear HC11
       by_cases c12 : x5_2 > 0
       ·rw [if_pos c12] at H
        have c12b0 : decide (0 < x5_2) = true := decide_eq_true c12
        clear c12
        (first | rw [c12b0] | (simp only [i64_w, i32_w]; rw [c12b0]) | skip)
        by_cases c13 : x3_2.size + 4 ≤ 9223372036854775807
        ·rw [if_pos c13] at H
         have c13b0 := eq_true c13
         have c13b1 : decide (x3_2.size + 4 ≤ 9223372036854775807) = true := decide_eq_true c13
         try have c13b2 : (9223372036854775807 < x3_2.size + 4) = False := eq_false (Nat.not_lt.2 c13)
         obtain ⟨js14, hjs14⟩ : ∃ j_ : ByteArray, (x3_2 ++ (⟨#[32, 124, 124, 32]⟩ : ByteArray)) = j_ := ⟨_, rfl⟩
         replace H : (spec_l03Text.j2 k2 js14 x4_3 x5_2 s0_0 x1001_2 x1002_2) = some (r1, r2, r3) := by first | (rw [hjs14] at H; exact H) | (simp only [hjs14] at H ⊢; exact H)
         have H' := Aside0.mk H
         clear H
         go_wp2
         go_meet
         case rel => exact ⟨_, (js14), (by first | rfl | (simp; done) | (simp only [← hjs14] <;> (first | rfl | simp)) | (simp [*]; done)), H', ⟨by have := HJ3.out; have := HK2.out; first | omega | exact Nat.le_refl _⟩, ⟨zb1⟩, ⟨zb3⟩, ⟨zb2⟩⟩
        ·rw [if_neg c13] at H
         exact absurd H zb26
       ·rw [if_neg c12] at H
        have c12b0 : decide (0 < x5_2) = false := decide_eq_false c12
        clear c12
        (first | rw [c12b0] | (simp only [i64_w, i32_w]; rw [c12b0]) | skip)
        have H' := Aside0.mk H
        clear H
        go_wp2
        go_meet
        case rel => exact ⟨_, (x3_2), zb10, H', ⟨by have := HJ3.out; have := HK2.out; first | omega | exact Nat.le_refl _⟩, ⟨zb1⟩, ⟨zb3⟩, ⟨zb2⟩⟩
      case rest =>
       clear HC11
       try clear c1
       try clear p2
       try clear c3
       try clear p6
       try clear c7
       try clear c10
       try clear c10b0
       try clear c12
       try clear c12b0
       try clear c13
       try clear c13b0
       try clear c13b1
       try clear c13b2
       try clear p2
       try clear p6
       obtain ⟨kq, x3_10, rfl, HA, HJ10, HI0, HK, HB⟩ := hcut
       cases kq with
       | zero => exact absurd HA.out (by simp [spec_l03Text.j2])
       | succ kj10 =>
        have H := HA.out
        clear HA
        simp only [spec_l03Text.j2] at H
        replace H := Option.bind_eq_some_iff.mp H
        obtain ⟨⟨t474, t475, t476⟩, A150, H⟩ := H
        try dsimp only at H
        have A15 := Aside0.mk A150
        clear A150
        by_cases c16 : t474 = 0
        ·rw [if_pos c16] at H
         have c16b0 : (t474 == 0) = true := beq_iff_eq.mpr c16
         have c16b1 : (t474 != 0) = false := bne_eq_false_iff_eq.mpr c16
         clear c16
         by_cases c17 : x3_10.size + 1 ≤ 9223372036854775807
         ·rw [if_pos c17] at H
          have c17b0 := eq_true c17
          have c17b1 : decide (x3_10.size + 1 ≤ 9223372036854775807) = true := decide_eq_true c17
          try have c17b2 : (9223372036854775807 < x3_10.size + 1) = False := eq_false (Nat.not_lt.2 c17)
          obtain ⟨js18, hjs18⟩ : ∃ j_ : ByteArray, (x3_10 ++ (⟨#[42]⟩ : ByteArray)) = j_ := ⟨_, rfl⟩
          replace H : (spec_l03Text.l0 kj10 js18 x4_3 (wrap64 (x5_2 + 1)) s0_0 t475 t476) = some (r1, r2, r3) := by first | (rw [hjs18] at H; exact H) | (simp only [hjs18] at H ⊢; exact H)
          (try rw [hjs18] at A15)
          have H' := Aside0.mk H
          clear H
          go_wp2_with (first | ((with_reducible refine gate_callee (f := 30) rfl ?_); refine goesL_ (some 24) rfl rfl Tryz.func30 zb17 rfl #[.pointer (some ⟨g, 0, none⟩), .int .i64 8] rfl zb4 ?_; (with_reducible refine (spec_l01Below.calls g s0_0 x1001_2 x1002_2 8 t474 t475 t476 w0 _ ?side1 ?side2 A15.out).mono ?_); (case side1 => exact zb1); (case side2 => exact zb2); rintro e w19 ⟨rfl, hi, hb, hk⟩; refine ⟨_, rfl, ?_⟩; replace HK := Aside0.mk (KeepBut.trans zb3 hk (.inl rfl)); replace HB := Aside0.mk hb; replace HI0 := Aside0.mk hi; (try clear hb); (try clear hb2); (try clear hk); (try clear hi)))
          go_roundg kj10
          case measure => have := HJ3.out; have := HK2.out; have := HJ10.out; omega
          case rel => exact ⟨(js18), (wrap64 (x5_2 + 1)), (t475), (t476), (by first | rfl | (simp; done) | (simp only [← hjs18] <;> (first | rfl | simp)) | (simp [*]; done)), zb10, H', ⟨by have := HJ3.out; have := HK2.out; have := HJ10.out; omega⟩, ⟨zb1⟩, ⟨zb3⟩, ⟨zb2⟩⟩
         ·rw [if_neg c17] at H
          exact absurd H zb26
        ·rw [if_neg c16] at H
         have c16b0 : (t474 == 0) = false := beq_eq_false_iff_ne.mpr c16
         have c16b1 : (t474 != 0) = true := bne_iff_ne.mpr c16
         by_cases c20 : t474 = 1
         ·rw [if_pos c20] at H
          have c20b0 : (t474 == 1) = true := beq_iff_eq.mpr c20
          have c20b1 : (t474 != 1) = false := bne_eq_false_iff_eq.mpr c20
          clear c20
          by_cases c21 : x3_10.size + 1 ≤ 9223372036854775807
          ·rw [if_pos c21] at H
           have c21b0 := eq_true c21
           have c21b1 : decide (x3_10.size + 1 ≤ 9223372036854775807) = true := decide_eq_true c21
           try have c21b2 : (9223372036854775807 < x3_10.size + 1) = False := eq_false (Nat.not_lt.2 c21)
           obtain ⟨js22, hjs22⟩ : ∃ j_ : ByteArray, (x3_10 ++ (⟨#[94]⟩ : ByteArray)) = j_ := ⟨_, rfl⟩
           replace H : ((spec_l02Right.f kj10 s0_0 t475 t476).bind fun bt477 => (if (js22).size + bt477.1.size ≤ 9223372036854775807 then (spec_l03Text.l0 kj10 ((js22) ++ bt477.1) x4_3 (wrap64 (x5_2 + 1)) s0_0 bt477.2.1 bt477.2.2) else (none))) = some (r1, r2, r3) := by first | (rw [hjs22] at H; exact H) | (simp only [hjs22] at H ⊢; exact H)
           (try rw [hjs22] at A15)
           replace H := Option.bind_eq_some_iff.mp H
           obtain ⟨⟨t477, t478, t479⟩, A230, H⟩ := H
           try dsimp only at H
           have A23 := Aside0.mk A230
           clear A230
           by_cases c24 : (js22).size + t477.size ≤ 9223372036854775807
           ·rw [if_pos c24] at H
            have c24b0 := eq_true c24
            have c24b1 : decide ((js22).size + t477.size ≤ 9223372036854775807) = true := decide_eq_true c24
            try have c24b2 : (9223372036854775807 < (js22).size + t477.size) = False := eq_false (Nat.not_lt.2 c24)
            obtain ⟨js25, hjs25⟩ : ∃ j_ : ByteArray, ((js22) ++ t477) = j_ := ⟨_, rfl⟩
            replace H : (spec_l03Text.l0 kj10 js25 x4_3 (wrap64 (x5_2 + 1)) s0_0 t478 t479) = some (r1, r2, r3) := by first | (rw [hjs25] at H; exact H) | (simp only [hjs25] at H ⊢; exact H)
            (try rw [hjs25] at A15)
            (try rw [hjs25] at A23)
            have H' := Aside0.mk H
            clear H
            go_wp2_with (first | ((with_reducible refine gate_callee (f := 30) rfl ?_); refine goesL_ (some 24) rfl rfl Tryz.func30 zb17 rfl #[.pointer (some ⟨g, 0, none⟩), .int .i64 8] rfl zb4 ?_; (with_reducible refine (spec_l01Below.calls g s0_0 x1001_2 x1002_2 8 t474 t475 t476 w0 _ ?side1 ?side2 A15.out).mono ?_); (case side1 => exact zb1); (case side2 => exact zb2); rintro e w26 ⟨rfl, hi, hb, hk⟩; refine ⟨_, rfl, ?_⟩; replace HK := Aside0.mk (KeepBut.trans zb3 hk (.inl rfl)); replace HB := Aside0.mk hb; replace HI0 := Aside0.mk hi; (try clear hb); (try clear hb2); (try clear hk); (try clear hi)) | ((with_reducible refine gate_callee (f := 32) rfl ?_); refine goesL_ (some 38) rfl rfl Tryz.func32 zb17 rfl #[.pointer (some ⟨g, 0, none⟩)] rfl zb4 ?_; (with_reducible refine (spec_l02Right.calls kj10 g s0_0 t475 t476 t477 t478 t479 w0 _ ?side1 ?side2 ?side3 ?side4 ?side5 A23.out).mono ?_); (case side1 => exact zb1); (case side2 => exact zb2); (case side3 => exact HGE.out); (case side4 => exact HGM.out); (case side5 => exact HGT.out); rintro e w27 ⟨rfl, hi, hb, hk⟩; refine ⟨_, rfl, ?_⟩; replace HK := Aside0.mk (KeepBut.trans zb3 hk (.inl rfl)); replace HB := Aside0.mk hb; replace HI0 := Aside0.mk hi; (try clear hb); (try clear hb2); (try clear hk); (try clear hi)))
            go_roundg kj10
            case measure => have := HJ3.out; have := HK2.out; have := HJ10.out; omega
            case rel => exact ⟨(js25), (wrap64 (x5_2 + 1)), (t478), (t479), (by first | rfl | (simp; done) | (simp only [← hjs25] <;> (first | rfl | simp)) | (simp [*]; done)), zb10, H', ⟨by have := HJ3.out; have := HK2.out; have := HJ10.out; omega⟩, ⟨zb1⟩, ⟨zb3⟩, ⟨zb2⟩⟩
           ·rw [if_neg c24] at H
            exact absurd H zb26
          ·rw [if_neg c21] at H
           exact absurd H zb26
         ·rw [if_neg c20] at H
          have c20b0 : (t474 == 1) = false := beq_eq_false_iff_ne.mpr c20
          have c20b1 : (t474 != 1) = true := bne_iff_ne.mpr c20
          by_cases c28 : t474 = 2
          ·rw [if_pos c28] at H
           have c28b0 : (t474 == 2) = true := beq_iff_eq.mpr c28
           have c28b1 : (t474 != 2) = false := bne_eq_false_iff_eq.mpr c28
           clear c28
           by_cases c29 : x3_10.size + 1 ≤ 9223372036854775807
           ·rw [if_pos c29] at H
            have c29b0 := eq_true c29
            have c29b1 : decide (x3_10.size + 1 ≤ 9223372036854775807) = true := decide_eq_true c29
            try have c29b2 : (9223372036854775807 < x3_10.size + 1) = False := eq_false (Nat.not_lt.2 c29)
            obtain ⟨js30, hjs30⟩ : ∃ j_ : ByteArray, (x3_10 ++ (⟨#[126]⟩ : ByteArray)) = j_ := ⟨_, rfl⟩
            replace H : ((spec_l02Right.f kj10 s0_0 t475 t476).bind fun bt480 => (if (js30).size + bt480.1.size ≤ 9223372036854775807 then (spec_l03Text.l0 kj10 ((js30) ++ bt480.1) x4_3 (wrap64 (x5_2 + 1)) s0_0 bt480.2.1 bt480.2.2) else (none))) = some (r1, r2, r3) := by first | (rw [hjs30] at H; exact H) | (simp only [hjs30] at H ⊢; exact H)
            (try rw [hjs30] at A15)
            replace H := Option.bind_eq_some_iff.mp H
            obtain ⟨⟨t480, t481, t482⟩, A310, H⟩ := H
            try dsimp only at H
            have A31 := Aside0.mk A310
            clear A310
            by_cases c32 : (js30).size + t480.size ≤ 9223372036854775807
            ·rw [if_pos c32] at H
             have c32b0 := eq_true c32
             have c32b1 : decide ((js30).size + t480.size ≤ 9223372036854775807) = true := decide_eq_true c32
             try have c32b2 : (9223372036854775807 < (js30).size + t480.size) = False := eq_false (Nat.not_lt.2 c32)
             obtain ⟨js33, hjs33⟩ : ∃ j_ : ByteArray, ((js30) ++ t480) = j_ := ⟨_, rfl⟩
             replace H : (spec_l03Text.l0 kj10 js33 x4_3 (wrap64 (x5_2 + 1)) s0_0 t481 t482) = some (r1, r2, r3) := by first | (rw [hjs33] at H; exact H) | (simp only [hjs33] at H ⊢; exact H)
             (try rw [hjs33] at A15)
             (try rw [hjs33] at A31)
             have H' := Aside0.mk H
             clear H
             go_wp2_with (first | ((with_reducible refine gate_callee (f := 30) rfl ?_); refine goesL_ (some 24) rfl rfl Tryz.func30 zb17 rfl #[.pointer (some ⟨g, 0, none⟩), .int .i64 8] rfl zb4 ?_; (with_reducible refine (spec_l01Below.calls g s0_0 x1001_2 x1002_2 8 t474 t475 t476 w0 _ ?side1 ?side2 A15.out).mono ?_); (case side1 => exact zb1); (case side2 => exact zb2); rintro e w34 ⟨rfl, hi, hb, hk⟩; refine ⟨_, rfl, ?_⟩; replace HK := Aside0.mk (KeepBut.trans zb3 hk (.inl rfl)); replace HB := Aside0.mk hb; replace HI0 := Aside0.mk hi; (try clear hb); (try clear hb2); (try clear hk); (try clear hi)) | ((with_reducible refine gate_callee (f := 32) rfl ?_); refine goesL_ (some 45) rfl rfl Tryz.func32 zb17 rfl #[.pointer (some ⟨g, 0, none⟩)] rfl zb4 ?_; (with_reducible refine (spec_l02Right.calls kj10 g s0_0 t475 t476 t480 t481 t482 w0 _ ?side1 ?side2 ?side3 ?side4 ?side5 A31.out).mono ?_); (case side1 => exact zb1); (case side2 => exact zb2); (case side3 => exact HGE.out); (case side4 => exact HGM.out); (case side5 => exact HGT.out); rintro e w35 ⟨rfl, hi, hb, hk⟩; refine ⟨_, rfl, ?_⟩; replace HK := Aside0.mk (KeepBut.trans zb3 hk (.inl rfl)); replace HB := Aside0.mk hb; replace HI0 := Aside0.mk hi; (try clear hb); (try clear hb2); (try clear hk); (try clear hi)))
             go_roundg kj10
             case measure => have := HJ3.out; have := HK2.out; have := HJ10.out; omega
             case rel => exact ⟨(js33), (wrap64 (x5_2 + 1)), (t481), (t482), (by first | rfl | (simp; done) | (simp only [← hjs33] <;> (first | rfl | simp)) | (simp [*]; done)), zb10, H', ⟨by have := HJ3.out; have := HK2.out; have := HJ10.out; omega⟩, ⟨zb1⟩, ⟨zb3⟩, ⟨zb2⟩⟩
            ·rw [if_neg c32] at H
             exact absurd H zb26
           ·rw [if_neg c29] at H
            exact absurd H zb26
          ·rw [if_neg c28] at H
           have c28b0 : (t474 == 2) = false := beq_eq_false_iff_ne.mpr c28
           have c28b1 : (t474 != 2) = true := bne_iff_ne.mpr c28
           by_cases c36 : t474 = 3
           ·rw [if_pos c36] at H
            have c36b0 : (t474 == 3) = true := beq_iff_eq.mpr c36
            have c36b1 : (t474 != 3) = false := bne_eq_false_iff_eq.mpr c36
            clear c36
            by_cases c37 : x3_10.size + 2 ≤ 9223372036854775807
            ·rw [if_pos c37] at H
             have c37b0 := eq_true c37
             have c37b1 : decide (x3_10.size + 2 ≤ 9223372036854775807) = true := decide_eq_true c37
             try have c37b2 : (9223372036854775807 < x3_10.size + 2) = False := eq_false (Nat.not_lt.2 c37)
             obtain ⟨js38, hjs38⟩ : ∃ j_ : ByteArray, (x3_10 ++ (⟨#[62, 61]⟩ : ByteArray)) = j_ := ⟨_, rfl⟩
             replace H : ((spec_l02Right.f kj10 s0_0 t475 t476).bind fun bt483 => (if (js38).size + bt483.1.size ≤ 9223372036854775807 then (spec_l03Text.l0 kj10 ((js38) ++ bt483.1) x4_3 (wrap64 (x5_2 + 1)) s0_0 bt483.2.1 bt483.2.2) else (none))) = some (r1, r2, r3) := by first | (rw [hjs38] at H; exact H) | (simp only [hjs38] at H ⊢; exact H)
             (try rw [hjs38] at A15)
             replace H := Option.bind_eq_some_iff.mp H
             obtain ⟨⟨t483, t484, t485⟩, A390, H⟩ := H
             try dsimp only at H
             have A39 := Aside0.mk A390
             clear A390
             by_cases c40 : (js38).size + t483.size ≤ 9223372036854775807
             ·rw [if_pos c40] at H
              have c40b0 := eq_true c40
              have c40b1 : decide ((js38).size + t483.size ≤ 9223372036854775807) = true := decide_eq_true c40
              try have c40b2 : (9223372036854775807 < (js38).size + t483.size) = False := eq_false (Nat.not_lt.2 c40)
              obtain ⟨js41, hjs41⟩ : ∃ j_ : ByteArray, ((js38) ++ t483) = j_ := ⟨_, rfl⟩
              replace H : (spec_l03Text.l0 kj10 js41 x4_3 (wrap64 (x5_2 + 1)) s0_0 t484 t485) = some (r1, r2, r3) := by first | (rw [hjs41] at H; exact H) | (simp only [hjs41] at H ⊢; exact H)
              (try rw [hjs41] at A15)
              (try rw [hjs41] at A39)
              have H' := Aside0.mk H
              clear H
              go_wp2_with (first | ((with_reducible refine gate_callee (f := 30) rfl ?_); refine goesL_ (some 24) rfl rfl Tryz.func30 zb17 rfl #[.pointer (some ⟨g, 0, none⟩), .int .i64 8] rfl zb4 ?_; (with_reducible refine (spec_l01Below.calls g s0_0 x1001_2 x1002_2 8 t474 t475 t476 w0 _ ?side1 ?side2 A15.out).mono ?_); (case side1 => exact zb1); (case side2 => exact zb2); rintro e w42 ⟨rfl, hi, hb, hk⟩; refine ⟨_, rfl, ?_⟩; replace HK := Aside0.mk (KeepBut.trans zb3 hk (.inl rfl)); replace HB := Aside0.mk hb; replace HI0 := Aside0.mk hi; (try clear hb); (try clear hb2); (try clear hk); (try clear hi)) | ((with_reducible refine gate_callee (f := 32) rfl ?_); refine goesL_ (some 52) rfl rfl Tryz.func32 zb17 rfl #[.pointer (some ⟨g, 0, none⟩)] rfl zb4 ?_; (with_reducible refine (spec_l02Right.calls kj10 g s0_0 t475 t476 t483 t484 t485 w0 _ ?side1 ?side2 ?side3 ?side4 ?side5 A39.out).mono ?_); (case side1 => exact zb1); (case side2 => exact zb2); (case side3 => exact HGE.out); (case side4 => exact HGM.out); (case side5 => exact HGT.out); rintro e w43 ⟨rfl, hi, hb, hk⟩; refine ⟨_, rfl, ?_⟩; replace HK := Aside0.mk (KeepBut.trans zb3 hk (.inl rfl)); replace HB := Aside0.mk hb; replace HI0 := Aside0.mk hi; (try clear hb); (try clear hb2); (try clear hk); (try clear hi)))
              go_roundg kj10
              case measure => have := HJ3.out; have := HK2.out; have := HJ10.out; omega
              case rel => exact ⟨(js41), (wrap64 (x5_2 + 1)), (t484), (t485), (by first | rfl | (simp; done) | (simp only [← hjs41] <;> (first | rfl | simp)) | (simp [*]; done)), zb10, H', ⟨by have := HJ3.out; have := HK2.out; have := HJ10.out; omega⟩, ⟨zb1⟩, ⟨zb3⟩, ⟨zb2⟩⟩
             ·rw [if_neg c40] at H
              exact absurd H zb26
            ·rw [if_neg c37] at H
             exact absurd H zb26
           ·rw [if_neg c36] at H
            have c36b0 : (t474 == 3) = false := beq_eq_false_iff_ne.mpr c36
            have c36b1 : (t474 != 3) = true := bne_iff_ne.mpr c36
            by_cases c44 : t474 = 4
            ·rw [if_pos c44] at H
             have c44b0 : (t474 == 4) = true := beq_iff_eq.mpr c44
             have c44b1 : (t474 != 4) = false := bne_eq_false_iff_eq.mpr c44
             clear c44
             by_cases c45 : x3_10.size + 2 ≤ 9223372036854775807
             ·rw [if_pos c45] at H
              have c45b0 := eq_true c45
              have c45b1 : decide (x3_10.size + 2 ≤ 9223372036854775807) = true := decide_eq_true c45
              try have c45b2 : (9223372036854775807 < x3_10.size + 2) = False := eq_false (Nat.not_lt.2 c45)
              obtain ⟨js46, hjs46⟩ : ∃ j_ : ByteArray, (x3_10 ++ (⟨#[62, 61]⟩ : ByteArray)) = j_ := ⟨_, rfl⟩
              replace H : ((spec_l02Right.f kj10 s0_0 t475 t476).bind fun bt486 => (if (js46).size + bt486.1.size ≤ 9223372036854775807 then (if ((js46) ++ bt486.1).size + 2 ≤ 9223372036854775807 then ((spec_l02Right.f kj10 s0_0 bt486.2.1 bt486.2.2).bind fun bt489 => (if (((js46) ++ bt486.1) ++ (⟨#[32, 60]⟩ : ByteArray)).size + bt489.1.size ≤ 9223372036854775807 then (spec_l03Text.l0 kj10 ((((js46) ++ bt486.1) ++ (⟨#[32, 60]⟩ : ByteArray)) ++ bt489.1) x4_3 (wrap64 (x5_2 + 1)) s0_0 bt489.2.1 bt489.2.2) else (none))) else (none)) else (none))) = some (r1, r2, r3) := by first | (rw [hjs46] at H; exact H) | (simp only [hjs46] at H ⊢; exact H)
              (try rw [hjs46] at A15)
              replace H := Option.bind_eq_some_iff.mp H
              obtain ⟨⟨t486, t487, t488⟩, A470, H⟩ := H
              try dsimp only at H
              have A47 := Aside0.mk A470
              clear A470
              by_cases c48 : (js46).size + t486.size ≤ 9223372036854775807
              ·rw [if_pos c48] at H
               have c48b0 := eq_true c48
               have c48b1 : decide ((js46).size + t486.size ≤ 9223372036854775807) = true := decide_eq_true c48
               try have c48b2 : (9223372036854775807 < (js46).size + t486.size) = False := eq_false (Nat.not_lt.2 c48)
               obtain ⟨js49, hjs49⟩ : ∃ j_ : ByteArray, ((js46) ++ t486) = j_ := ⟨_, rfl⟩
               replace H : (if (js49).size + 2 ≤ 9223372036854775807 then ((spec_l02Right.f kj10 s0_0 t487 t488).bind fun bt489 => (if ((js49) ++ (⟨#[32, 60]⟩ : ByteArray)).size + bt489.1.size ≤ 9223372036854775807 then (spec_l03Text.l0 kj10 (((js49) ++ (⟨#[32, 60]⟩ : ByteArray)) ++ bt489.1) x4_3 (wrap64 (x5_2 + 1)) s0_0 bt489.2.1 bt489.2.2) else (none))) else (none)) = some (r1, r2, r3) := by first | (rw [hjs49] at H; exact H) | (simp only [hjs49] at H ⊢; exact H)
               (try rw [hjs49] at A15)
               (try rw [hjs49] at A47)
               by_cases c50 : (js49).size + 2 ≤ 9223372036854775807
               ·rw [if_pos c50] at H
                have c50b0 := eq_true c50
                have c50b1 : decide ((js49).size + 2 ≤ 9223372036854775807) = true := decide_eq_true c50
                try have c50b2 : (9223372036854775807 < (js49).size + 2) = False := eq_false (Nat.not_lt.2 c50)
                obtain ⟨js51, hjs51⟩ : ∃ j_ : ByteArray, ((js49) ++ (⟨#[32, 60]⟩ : ByteArray)) = j_ := ⟨_, rfl⟩
                replace H : ((spec_l02Right.f kj10 s0_0 t487 t488).bind fun bt489 => (if (js51).size + bt489.1.size ≤ 9223372036854775807 then (spec_l03Text.l0 kj10 ((js51) ++ bt489.1) x4_3 (wrap64 (x5_2 + 1)) s0_0 bt489.2.1 bt489.2.2) else (none))) = some (r1, r2, r3) := by first | (rw [hjs51] at H; exact H) | (simp only [hjs51] at H ⊢; exact H)
                (try rw [hjs51] at A15)
                (try rw [hjs51] at A47)
                replace H := Option.bind_eq_some_iff.mp H
                obtain ⟨⟨t489, t490, t491⟩, A520, H⟩ := H
                try dsimp only at H
                have A52 := Aside0.mk A520
                clear A520
                by_cases c53 : (js51).size + t489.size ≤ 9223372036854775807
                ·rw [if_pos c53] at H
                 have c53b0 := eq_true c53
                 have c53b1 : decide ((js51).size + t489.size ≤ 9223372036854775807) = true := decide_eq_true c53
                 try have c53b2 : (9223372036854775807 < (js51).size + t489.size) = False := eq_false (Nat.not_lt.2 c53)
                 obtain ⟨js54, hjs54⟩ : ∃ j_ : ByteArray, ((js51) ++ t489) = j_ := ⟨_, rfl⟩
                 replace H : (spec_l03Text.l0 kj10 js54 x4_3 (wrap64 (x5_2 + 1)) s0_0 t490 t491) = some (r1, r2, r3) := by first | (rw [hjs54] at H; exact H) | (simp only [hjs54] at H ⊢; exact H)
                 (try rw [hjs54] at A15)
                 (try rw [hjs54] at A47)
                 (try rw [hjs54] at A52)
                 have H' := Aside0.mk H
                 clear H
                 go_wp2_with (first | ((with_reducible refine gate_callee (f := 30) rfl ?_); refine goesL_ (some 24) rfl rfl Tryz.func30 zb17 rfl #[.pointer (some ⟨g, 0, none⟩), .int .i64 8] rfl zb4 ?_; (with_reducible refine (spec_l01Below.calls g s0_0 x1001_2 x1002_2 8 t474 t475 t476 w0 _ ?side1 ?side2 A15.out).mono ?_); (case side1 => exact zb1); (case side2 => exact zb2); rintro e w55 ⟨rfl, hi, hb, hk⟩; refine ⟨_, rfl, ?_⟩; replace HK := Aside0.mk (KeepBut.trans zb3 hk (.inl rfl)); replace HB := Aside0.mk hb; replace HI0 := Aside0.mk hi; (try clear hb); (try clear hb2); (try clear hk); (try clear hi)) | ((with_reducible refine gate_callee (f := 32) rfl ?_); refine goesL_ (some 59) rfl rfl Tryz.func32 zb17 rfl #[.pointer (some ⟨g, 0, none⟩)] rfl zb4 ?_; (with_reducible refine (spec_l02Right.calls kj10 g s0_0 t475 t476 t486 t487 t488 w0 _ ?side1 ?side2 ?side3 ?side4 ?side5 A47.out).mono ?_); (case side1 => exact zb1); (case side2 => exact zb2); (case side3 => exact HGE.out); (case side4 => exact HGM.out); (case side5 => exact HGT.out); rintro e w56 ⟨rfl, hi, hb, hk⟩; refine ⟨_, rfl, ?_⟩; replace HK := Aside0.mk (KeepBut.trans zb3 hk (.inl rfl)); replace HB := Aside0.mk hb; replace HI0 := Aside0.mk hi; (try clear hb); (try clear hb2); (try clear hk); (try clear hi)) | ((with_reducible refine gate_callee (f := 32) rfl ?_); refine goesL_ (some 63) rfl rfl Tryz.func32 zb17 rfl #[.pointer (some ⟨g, 0, none⟩)] rfl zb4 ?_; (with_reducible refine (spec_l02Right.calls kj10 g s0_0 t487 t488 t489 t490 t491 w0 _ ?side1 ?side2 ?side3 ?side4 ?side5 A52.out).mono ?_); (case side1 => exact zb1); (case side2 => exact zb2); (case side3 => exact HGE.out); (case side4 => exact HGM.out); (case side5 => exact HGT.out); rintro e w57 ⟨rfl, hi, hb, hk⟩; refine ⟨_, rfl, ?_⟩; replace HK := Aside0.mk (KeepBut.trans zb3 hk (.inl rfl)); replace HB := Aside0.mk hb; replace HI0 := Aside0.mk hi; (try clear hb); (try clear hb2); (try clear hk); (try clear hi)))
                 go_roundg kj10
                 case measure => have := HJ3.out; have := HK2.out; have := HJ10.out; omega
                 case rel => exact ⟨(js54), (wrap64 (x5_2 + 1)), (t490), (t491), (by first | rfl | (simp; done) | (simp only [← hjs54] <;> (first | rfl | simp)) | (simp [*]; done)), zb10, H', ⟨by have := HJ3.out; have := HK2.out; have := HJ10.out; omega⟩, ⟨zb1⟩, ⟨zb3⟩, ⟨zb2⟩⟩
                ·rw [if_neg c53] at H
                 exact absurd H zb26
               ·rw [if_neg c50] at H
                exact absurd H zb26
              ·rw [if_neg c48] at H
               exact absurd H zb26
             ·rw [if_neg c45] at H
              exact absurd H zb26
            ·rw [if_neg c44] at H
             have c44b0 : (t474 == 4) = false := beq_eq_false_iff_ne.mpr c44
             have c44b1 : (t474 != 4) = true := bne_iff_ne.mpr c44
             by_cases c58 : t474 = 5
             ·rw [if_pos c58] at H
              have c58b0 : (t474 == 5) = true := beq_iff_eq.mpr c58
              have c58b1 : (t474 != 5) = false := bne_eq_false_iff_eq.mpr c58
              clear c58
              obtain ⟨y492, hy492⟩ : ∃ y_ : List ByteArray, y_ = (([(⟨#[49]⟩ : ByteArray), (⟨#[49, 46, 50]⟩ : ByteArray), (⟨#[48]⟩ : ByteArray), (⟨#[48, 46, 48]⟩ : ByteArray), (⟨#[60, 50, 46, 48, 46, 48]⟩ : ByteArray), (⟨#[48, 49]⟩ : ByteArray), (⟨#[49, 46]⟩ : ByteArray), (⟨#[57, 57, 57, 57, 57, 57, 57, 57, 57]⟩ : ByteArray), (⟨#[94, 57, 57, 57, 57, 57, 57, 57, 57, 57, 46, 48, 46, 48]⟩ : ByteArray)] : List ByteArray)) := ⟨_, rfl⟩
              first | replace H := hb1 H (show (spec_l01Pick.f s0_0 t475 t476 y492) = _ from (by rw [hy492])) | replace H := hb1 (hb2 H) (show (spec_l01Pick.f s0_0 t475 t476 y492) = _ from (by rw [hy492]))
              have Ny492 := Aside0.mk hy492
              clear hy492
              replace H := Option.bind_eq_some_iff.mp H
              obtain ⟨⟨t495, t496, t497⟩, A590, H⟩ := H
              try dsimp only at H
              have A59 := Aside0.mk A590
              clear A590
              by_cases c60 : x3_10.size + t495.size ≤ 9223372036854775807
              ·rw [if_pos c60] at H
               have c60b0 := eq_true c60
               have c60b1 : decide (x3_10.size + t495.size ≤ 9223372036854775807) = true := decide_eq_true c60
               try have c60b2 : (9223372036854775807 < x3_10.size + t495.size) = False := eq_false (Nat.not_lt.2 c60)
               obtain ⟨js61, hjs61⟩ : ∃ j_ : ByteArray, (x3_10 ++ t495) = j_ := ⟨_, rfl⟩
               replace H : (spec_l03Text.l0 kj10 js61 x4_3 (wrap64 (x5_2 + 1)) s0_0 t496 t497) = some (r1, r2, r3) := by first | (rw [hjs61] at H; exact H) | (simp only [hjs61] at H ⊢; exact H)
               (try rw [hjs61] at A15)
               (try rw [hjs61] at A59)
               have H' := Aside0.mk H
               clear H
               go_wp2_with (first | ((with_reducible refine gate_callee (f := 30) rfl ?_); refine goesL_ (some 24) rfl rfl Tryz.func30 zb17 rfl #[.pointer (some ⟨g, 0, none⟩), .int .i64 8] rfl zb4 ?_; (with_reducible refine (spec_l01Below.calls g s0_0 x1001_2 x1002_2 8 t474 t475 t476 w0 _ ?side1 ?side2 A15.out).mono ?_); (case side1 => exact zb1); (case side2 => exact zb2); rintro e w62 ⟨rfl, hi, hb, hk⟩; refine ⟨_, rfl, ?_⟩; replace HK := Aside0.mk (KeepBut.trans zb3 hk (.inl rfl)); replace HB := Aside0.mk hb; replace HI0 := Aside0.mk hi; (try clear hb); (try clear hb2); (try clear hk); (try clear hi)) | ((with_reducible refine gate_dst (N := 69) rfl ?_); refine Kd.R_lit Kd.string _ 9 ?hg (N := 69) ?hd (xs := ([(⟨#[49]⟩ : ByteArray), (⟨#[49, 46, 50]⟩ : ByteArray), (⟨#[48]⟩ : ByteArray), (⟨#[48, 46, 48]⟩ : ByteArray), (⟨#[60, 50, 46, 48, 46, 48]⟩ : ByteArray), (⟨#[48, 49]⟩ : ByteArray), (⟨#[49, 46]⟩ : ByteArray), (⟨#[57, 57, 57, 57, 57, 57, 57, 57, 57]⟩ : ByteArray), (⟨#[94, 57, 57, 57, 57, 57, 57, 57, 57, 57, 46, 48, 46, 48]⟩ : ByteArray)] : List ByteArray)) (inner := [.string (⟨#[49]⟩ : ByteArray), .string (⟨#[49, 46, 50]⟩ : ByteArray), .string (⟨#[48]⟩ : ByteArray), .string (⟨#[48, 46, 48]⟩ : ByteArray), .string (⟨#[60, 50, 46, 48, 46, 48]⟩ : ByteArray), .string (⟨#[48, 49]⟩ : ByteArray), .string (⟨#[49, 46]⟩ : ByteArray), .string (⟨#[57, 57, 57, 57, 57, 57, 57, 57, 57]⟩ : ByteArray), .string (⟨#[94, 57, 57, 57, 57, 57, 57, 57, 57, 57, 46, 48, 46, 48]⟩ : ByteArray)]) (ok := fun _ => True) (okp := fun _ => True) ?hr ?hp (fun _ hk => hk) trivial (Below.refl _ _) (Nat.le_refl _) zb26 ?_; (case hd => rfl); (case hg => rfl); (case hr => exact zb18); (case hp => exact zb15); intro v493 w63 ho64 hb hg_ hnew_; clear hg_ hnew_; (first | rw [← Ny492.out] at ho64 | (simp only [Int.reduceToNat] at ho64; rw [← Ny492.out] at ho64)); have HO494 := Aside0.mk (Kd.R_lower ho64 (keep_size (w := w) (g := g) (row := none) zb3)); replace HK := Aside0.mk (KeepBut.trans zb3 (KeepBut.of_below hb g none) (.inl rfl)); replace HB := Aside0.mk (below_step zb2 hb); replace HI0 := Aside0.mk (IsS55.below zb1 hb); clear hb ho64; obtain ⟨Ao65, co65, eo65⟩ := Kd.R_slice HO494.out; subst eo65) | ((with_reducible refine gate_callee (f := 36) rfl ?_); refine goesL_ (some 70) rfl rfl Tryz.func36 zb17 rfl #[.pointer (some ⟨g, 0, none⟩), .slice Ao65 y492.length co65] rfl zb4 ?_; (with_reducible refine (spec_l01Pick.calls g s0_0 t475 t476 _ _ y492 t495 t496 t497 w0 _ ?side1 ?side2 ?side3 ?side4 ?side5 A59.out).mono ?_); (case side1 => exact zb1); (case side2 => exact zb2); (case side3 => repeat (first | exact (Kd.R_reads' HO494.out).2.2 | (with_reducible refine Kd.C_alloc ?_ _) | (with_reducible refine Kd.C_drewN ?_ _) | (with_reducible refine Kd.C_drew ?_))); (case side4 => exact (Kd.R_reads' HO494.out).2.1); (case side5 => exact far_slice (IsS55.own_ne HI0.out HO494.out zb22)); rintro e w66 ⟨rfl, hi, hb, hk⟩; refine ⟨_, rfl, ?_⟩; replace HO494 := Aside0.mk (Kd.R_mono (Kd.R_keep (IsS55.apart (show IsS55 w0 _ g s0_0 t475 t476 from zb1) (zR HO494.out) zb22) hk (fun _ h => h.2)) (fun _ h => h.1)); replace HK := Aside0.mk (KeepBut.trans zb3 hk (.inl rfl)); replace HB := Aside0.mk hb; replace HI0 := Aside0.mk hi; (try clear hb); (try clear hb2); (try clear hk); (try clear hi)))
               go_roundg kj10
               case measure => have := HJ3.out; have := HK2.out; have := HJ10.out; omega
               case rel => exact ⟨(js61), (wrap64 (x5_2 + 1)), (t496), (t497), (by first | rfl | (simp; done) | (simp only [← hjs61] <;> (first | rfl | simp)) | (simp [*]; done)), zb10, H', ⟨by have := HJ3.out; have := HK2.out; have := HJ10.out; omega⟩, ⟨zb1⟩, ⟨zb3⟩, ⟨zb2⟩⟩
              ·rw [if_neg c60] at H
               exact absurd H zb26
             ·rw [if_neg c58] at H
              have c58b0 : (t474 == 5) = false := beq_eq_false_iff_ne.mpr c58
              have c58b1 : (t474 != 5) = true := bne_iff_ne.mpr c58
              replace H := Option.bind_eq_some_iff.mp H
              obtain ⟨⟨t498, t499, t500⟩, A670, H⟩ := H
              try dsimp only at H
              have A67 := Aside0.mk A670
              clear A670
              by_cases c68 : x3_10.size + t498.size ≤ 9223372036854775807
              ·rw [if_pos c68] at H
               have c68b0 := eq_true c68
               have c68b1 : decide (x3_10.size + t498.size ≤ 9223372036854775807) = true := decide_eq_true c68
               try have c68b2 : (9223372036854775807 < x3_10.size + t498.size) = False := eq_false (Nat.not_lt.2 c68)
               obtain ⟨js69, hjs69⟩ : ∃ j_ : ByteArray, (x3_10 ++ t498) = j_ := ⟨_, rfl⟩
               replace H : (spec_l03Text.l0 kj10 js69 x4_3 (wrap64 (x5_2 + 1)) s0_0 t499 t500) = some (r1, r2, r3) := by first | (rw [hjs69] at H; exact H) | (simp only [hjs69] at H ⊢; exact H)
               (try rw [hjs69] at A15)
               (try rw [hjs69] at A67)
               have H' := Aside0.mk H
               clear H
               go_wp2_with (first | ((with_reducible refine gate_callee (f := 30) rfl ?_); refine goesL_ (some 24) rfl rfl Tryz.func30 zb17 rfl #[.pointer (some ⟨g, 0, none⟩), .int .i64 8] rfl zb4 ?_; (with_reducible refine (spec_l01Below.calls g s0_0 x1001_2 x1002_2 8 t474 t475 t476 w0 _ ?side1 ?side2 A15.out).mono ?_); (case side1 => exact zb1); (case side2 => exact zb2); rintro e w70 ⟨rfl, hi, hb, hk⟩; refine ⟨_, rfl, ?_⟩; replace HK := Aside0.mk (KeepBut.trans zb3 hk (.inl rfl)); replace HB := Aside0.mk hb; replace HI0 := Aside0.mk hi; (try clear hb); (try clear hb2); (try clear hk); (try clear hi)) | ((with_reducible refine gate_callee (f := 32) rfl ?_); refine goesL_ (some 27) rfl rfl Tryz.func32 zb17 rfl #[.pointer (some ⟨g, 0, none⟩)] rfl zb4 ?_; (with_reducible refine (spec_l02Right.calls kj10 g s0_0 t475 t476 t498 t499 t500 w0 _ ?side1 ?side2 ?side3 ?side4 ?side5 A67.out).mono ?_); (case side1 => exact zb1); (case side2 => exact zb2); (case side3 => exact HGE.out); (case side4 => exact HGM.out); (case side5 => exact HGT.out); rintro e w71 ⟨rfl, hi, hb, hk⟩; refine ⟨_, rfl, ?_⟩; replace HK := Aside0.mk (KeepBut.trans zb3 hk (.inl rfl)); replace HB := Aside0.mk hb; replace HI0 := Aside0.mk hi; (try clear hb); (try clear hb2); (try clear hk); (try clear hi)))
               go_roundg kj10
               case measure => have := HJ3.out; have := HK2.out; have := HJ10.out; omega
               case rel => exact ⟨(js69), (wrap64 (x5_2 + 1)), (t499), (t500), (by first | rfl | (simp; done) | (simp only [← hjs69] <;> (first | rfl | simp)) | (simp [*]; done)), zb10, H', ⟨by have := HJ3.out; have := HK2.out; have := HJ10.out; omega⟩, ⟨zb1⟩, ⟨zb3⟩, ⟨zb2⟩⟩
              ·rw [if_neg c68] at H
               exact absurd H zb26
     ·rw [if_neg c10] at H
      have c10b0 : decide (x5_2 < x4_3) = false := decide_eq_false c10
      clear c10
      simp only [Option.some.injEq, Prod.mk.injEq] at H
      obtain ⟨rfl, rfl, rfl⟩ := H
      go_wp2
      go_ret
      exact ⟨zb9, zb1, zb2, zb3⟩
set_option maxHeartbeats 8000000 in
set_option maxRecDepth 100000 in
theorem spec_l03Range.calls (k : Nat) (g : Nat) (s0_0 : List Int) (s0_1 : Int) (s0_2 : Int) (r1 : List (S45)) (r2 : Int) (r3 : Int) (w0 w : World) (hI : IsS55 w0 w g s0_0 s0_1 s0_2) (hB : Below w0.heap.size w0 w) (hGE : Glob FactE w0) (hGM : Glob FactM w0) (hGT : Glob FactT w0) (h : spec_l03Range.f k s0_0 s0_1 s0_2 = some (r1, r2, r3)) :
  Calls Tryz.prog 18 #[.pointer (some ⟨g, 0, none⟩)] w fun e w' => ∃ v0_ : Value, e = .returned (v0_) ∧ Kd.R k45 45 w' w.heap.size (fun _ => True) v0_ r1 ∧ IsS55 w0 w' g s0_0 r2 r3 ∧ Below w0.heap.size w0 w' ∧ KeepBut w w' g none := by
 have HI0 := Aside0.mk hI
 have HK := Aside0.mk (KeepBut.refl w g none)
 have HL := Aside0.mk hB.size
 clear hI
 have HW0 := Aside0.mk hB.size
 have HB := Aside0.mk hB
 clear hB
 have HGE := Aside0.mk hGE
 clear hGE
 have HGM := Aside0.mk hGM
 clear hGM
 have HGT := Aside0.mk hGT
 clear hGT
 have H : ((spec_l03Text.f k s0_0 s0_1 s0_2).bind fun bt501 => ((spec_ReadRange.f k bt501.1).bind fun bt504 => (if (bt504.1.length : Int) > 0 then ((spec_l01Once.f s0_0 bt501.2.1 bt501.2.2 12).bind fun bt508 => (spec_l03Range.j0 k bt504.1 bt508.1 s0_0 bt508.2.1 bt508.2.2)) else (spec_l03Range.j0 k bt504.1 false s0_0 bt501.2.1 bt501.2.2)))) = some (r1, r2, r3) := h
 clear h
 replace H := Option.bind_eq_some_iff.mp H
 obtain ⟨⟨t501, t502, t503⟩, A20, H⟩ := H
 try dsimp only at H
 have A2 := Aside0.mk A20
 clear A20
 replace H := Option.bind_eq_some_iff.mp H
 obtain ⟨⟨t504, t505⟩, A30, H⟩ := H
 try dsimp only at H
 have A3 := Aside0.mk A30
 clear A30
 have HC4 := Aside0.mk H
 clear H
 go_enter Tryz.func18, Tryz.ntmps18
 go_upto_region 2 with (first | ((with_reducible refine gate_callee (f := 34) rfl ?_); refine goesL_ (some 7) rfl rfl Tryz.func34 zb17 rfl #[.pointer (some ⟨g, 0, none⟩)] rfl zb4 ?_; (with_reducible refine (spec_l03Text.calls k g s0_0 s0_1 s0_2 t501 t502 t503 w0 _ ?side1 ?side2 ?side3 ?side4 ?side5 A2.out).mono ?_); (case side1 => exact zb1); (case side2 => exact zb2); (case side3 => exact HGE.out); (case side4 => exact HGM.out); (case side5 => exact HGT.out); rintro e w5 ⟨rfl, hi, hb, hk⟩; refine ⟨_, rfl, ?_⟩; replace HK := Aside0.mk (KeepBut.trans zb3 hk (.inl rfl)); replace HB := Aside0.mk hb; replace HI0 := Aside0.mk hi; (try clear hb); (try clear hb2); (try clear hk); (try clear hi)) | ((with_reducible refine gate_callee (f := 33) rfl ?_); refine goesL_ (some 8) rfl rfl Tryz.func33 zb17 rfl #[.string t501] rfl zb4 ?_; (with_reducible refine (spec_ReadRange.calls k t501 t504 t505 _ ?side1 ?side2 ?side3 A3.out).mono ?_); (case side1 => exact Glob.below HGE.out zb2); (case side2 => exact Glob.below HGM.out zb2); (case side3 => exact Glob.below HGT.out zb2); rintro e w6 ⟨v506, rfl, ho0, hb⟩; refine ⟨_, rfl, ?_⟩; have HO507 := Aside0.mk (Kd.R_lower ho0 (keep_size (w := w) (g := g) (row := none) zb3)); replace HK := Aside0.mk (KeepBut.trans zb3 (KeepBut.of_below hb g none) (.inl rfl)); replace HB := Aside0.mk (below_step zb2 hb); replace HI0 := Aside0.mk (IsS55.below zb1 hb); (try clear hb); (try clear hb2); (try clear hk); (try clear hi); (try clear ho0)))
 (try simp only [Act.put, List.setIfInBounds_toArray, List.set_cons_zero, List.set_cons_succ])
 go_cut [17] (fun v17 wc => ∃ (kq : Nat) (x17_3 : Bool) (x1001_3 : Int) (x1002_3 : Int), v17 = .bool x17_3 ∧ Aside0 (spec_l03Range.j0 kq t504 x17_3 s0_0 x1001_3 x1002_3 = some (r1, r2, r3)) ∧ Aside0 (kq ≤ k) ∧ Aside0 (Kd.R k45 45 wc w.heap.size (fun _ => True) v506 t504) ∧ Aside0 (IsS55 w0 wc g s0_0 x1001_3 x1002_3) ∧ Aside0 (KeepBut w wc g none) ∧ Aside0 (Below w0.heap.size w0 wc))
 case first =>
  have H := HC4.out
  clear HC4
  by_cases c7 : (t504.length : Int) > 0
  ·rw [if_pos c7] at H
   have c7b0 : decide (0 < (t504.length : Int)) = true := decide_eq_true c7
   have c7b1 : decide (0 < t504.length) = true := decide_eq_true zb35
   clear c7
   (first | rw [c7b0] | (simp only [i64_w, i32_w]; rw [c7b0]) | skip)
   replace H := Option.bind_eq_some_iff.mp H
   obtain ⟨⟨t508, t509, t510⟩, A80, H⟩ := H
   try dsimp only at H
   have A8 := Aside0.mk A80
   clear A80
   have H' := Aside0.mk H
   clear H
   obtain ⟨Ao9, co9, eo9⟩ := Kd.R_slice HO507.out
   subst eo9
   go_wp2_with (first | (go_at_call 35; (with_reducible refine (spec_l01Once.calls g s0_0 t502 t503 12 t508 t509 t510 w0 _ ?side1 ?side2 A8.out).mono ?_); (case side1 => exact zb1); (case side2 => exact zb2); rintro e w10 ⟨rfl, hi, hb, hk⟩; replace HO507 := Aside0.mk (Kd.R_mono (Kd.R_keep (IsS55.apart (show IsS55 w0 _ g s0_0 t502 t503 from zb1) (zR HO507.out) zb22) hk (fun _ h => h.2)) (fun _ h => h.1)); replace HK := Aside0.mk (KeepBut.trans zb3 hk (.inl rfl)); replace HB := Aside0.mk hb; replace HI0 := Aside0.mk hi; (try clear hb); (try clear hb2); (try clear hk); (try clear hi)))
   go_meet
   case rel => exact ⟨_, (t508), (t509), (t510), zb10, H', ⟨zb31⟩, ⟨(zR HO507.out)⟩, ⟨zb1⟩, ⟨zb3⟩, ⟨zb2⟩⟩
  ·rw [if_neg c7] at H
   have c7b0 : decide (0 < (t504.length : Int)) = false := decide_eq_false c7
   have c7b1 : decide (0 < t504.length) = false := decide_eq_false zb35
   clear c7
   (first | rw [c7b0] | (simp only [i64_w, i32_w]; rw [c7b0]) | skip)
   have H' := Aside0.mk H
   clear H
   obtain ⟨Ao11, co11, eo11⟩ := Kd.R_slice HO507.out
   subst eo11
   go_wp2
   go_meet
   case rel => exact ⟨_, (false), (t502), (t503), zb10, H', ⟨zb31⟩, ⟨(zR HO507.out)⟩, ⟨zb1⟩, ⟨zb3⟩, ⟨zb2⟩⟩
 case rest =>
  clear HC4
  try clear c1
  try clear p2
  try clear c3
  try clear c7
  try clear c7b0
  try clear c7b1
  obtain ⟨kq, x17_3, x1001_3, x1002_3, rfl, HA, HJ3, HO_3, HI0, HK, HB⟩ := hcut
  cases kq with
  | zero => exact absurd HA.out (by simp [spec_l03Range.j0])
  | succ kj3 =>
   have H := HA.out
   clear HA
   simp only [spec_l03Range.j0] at H
   by_cases c12 : x17_3 = true
   ·subst c12
    rw [if_pos rfl] at H
    replace H := Option.bind_eq_some_iff.mp H
    obtain ⟨⟨t511, t512, t513⟩, A130, H⟩ := H
    try dsimp only at H
    have A13 := Aside0.mk A130
    clear A130
    obtain ⟨y514, hy514⟩ : ∃ y_ : List ByteArray, y_ = (([(⟨#[120]⟩ : ByteArray), (⟨#[49]⟩ : ByteArray), (⟨#[]⟩ : ByteArray), (⟨#[49, 46, 48, 46, 48, 45]⟩ : ByteArray)] : List ByteArray)) := ⟨_, rfl⟩
    first | replace H := hb1 H (show (spec_l01Pick.f s0_0 t512 t513 y514) = _ from (by rw [hy514])) | replace H := hb1 (hb2 H) (show (spec_l01Pick.f s0_0 t512 t513 y514) = _ from (by rw [hy514]))
    have Ny514 := Aside0.mk hy514
    clear hy514
    replace H := Option.bind_eq_some_iff.mp H
    obtain ⟨⟨t517, t518, t519⟩, A140, H⟩ := H
    try dsimp only at H
    have A14 := Aside0.mk A140
    clear A140
    by_cases c15 : 0 ≤ t511
    ·rw [if_pos c15] at H
     have c15b0 : decide (0 ≤ t511) = true := decide_eq_true c15
     clear c15
     by_cases c16 : t511 < (t504.length : Int)
     ·rw [if_pos c16] at H
      have c16b0 : decide (t511 < (t504.length : Int)) = true := decide_eq_true c16
      clear c16
      obtain ⟨y520, hy520⟩ : ∃ y_ : List (S45), y_ = (t504.set (t511 : Int).toNat (⟨t517, (rd_T45 t504 t511).f1⟩ : S45)) := ⟨_, rfl⟩
      replace H : (some (y520, t518, t519)) = some (r1, r2, r3) := by first | (rw [hy520]; with_reducible exact H) | (have H2_ := (Option.bind_some _ _).symm.trans H; rw [hy520]; with_reducible exact H2_) | (have H2_ := (Option.bind_some _ _).symm.trans H; with_reducible exact H2_) | with_reducible exact H | (rw [hy520]; exact H) | exact H
      have Ny520 := Aside0.mk hy520
      clear hy520
      simp only [Option.some.injEq, Prod.mk.injEq] at H
      obtain ⟨rfl, rfl, rfl⟩ := H
      obtain ⟨Ao18, co18, eo18⟩ := Kd.R_slice HO_3.out
      subst eo18
      go_wp2_with (first | ((with_reducible refine gate_callee (f := 30) rfl ?_); refine goesL_ (some 22) rfl rfl Tryz.func30 zb17 rfl #[.pointer (some ⟨g, 0, none⟩), .int .i64 (t504.length : Int)] rfl zb4 ?_; (with_reducible refine (spec_l01Below.calls g s0_0 x1001_3 x1002_3 (t504.length : Int) t511 t512 t513 w0 _ ?side1 ?side2 A13.out).mono ?_); (case side1 => exact zb1); (case side2 => exact zb2); rintro e w19 ⟨rfl, hi, hb, hk⟩; refine ⟨_, rfl, ?_⟩; replace HO_3 := Aside0.mk (Kd.R_mono (Kd.R_keep (IsS55.apart (show IsS55 w0 _ g s0_0 x1001_3 x1002_3 from zb1) (zR HO_3.out) zb22) hk (fun _ h => h.2)) (fun _ h => h.1)); replace HK := Aside0.mk (KeepBut.trans zb3 hk (.inl rfl)); replace HB := Aside0.mk hb; replace HI0 := Aside0.mk hi; (try clear hb); (try clear hb2); (try clear hk); (try clear hi)) | ((with_reducible refine gate_dst (N := 24) rfl ?_); refine Kd.R_lit Kd.string _ 9 ?hg (N := 24) ?hd (xs := ([(⟨#[120]⟩ : ByteArray), (⟨#[49]⟩ : ByteArray), (⟨#[]⟩ : ByteArray), (⟨#[49, 46, 48, 46, 48, 45]⟩ : ByteArray)] : List ByteArray)) (inner := [.string (⟨#[120]⟩ : ByteArray), .string (⟨#[49]⟩ : ByteArray), .string (⟨#[]⟩ : ByteArray), .string (⟨#[49, 46, 48, 46, 48, 45]⟩ : ByteArray)]) (ok := fun _ => True) (okp := fun _ => True) ?hr ?hp (fun _ hk => hk) trivial (Below.refl _ _) (Nat.le_refl _) zb26 ?_; (case hd => rfl); (case hg => rfl); (case hr => exact zb18); (case hp => exact zb15); intro v515 w20 ho21 hb hg_ hnew_; clear hg_ hnew_; (first | rw [← Ny514.out] at ho21 | (simp only [Int.reduceToNat] at ho21; rw [← Ny514.out] at ho21)); replace HO_3 := Aside0.mk (Kd.R_below (zR HO_3.out) hb); have HO516 := Aside0.mk (Kd.R_lower ho21 (keep_size (w := w) (g := g) (row := none) zb3)); replace HK := Aside0.mk (KeepBut.trans zb3 (KeepBut.of_below hb g none) (.inl rfl)); replace HB := Aside0.mk (below_step zb2 hb); replace HI0 := Aside0.mk (IsS55.below zb1 hb); clear hb ho21; obtain ⟨Ao22, co22, eo22⟩ := Kd.R_slice HO516.out; subst eo22) | ((with_reducible refine gate_callee (f := 36) rfl ?_); refine goesL_ (some 25) rfl rfl Tryz.func36 zb17 rfl #[.pointer (some ⟨g, 0, none⟩), .slice Ao22 y514.length co22] rfl zb4 ?_; (with_reducible refine (spec_l01Pick.calls g s0_0 t512 t513 _ _ y514 t517 t518 t519 w0 _ ?side1 ?side2 ?side3 ?side4 ?side5 A14.out).mono ?_); (case side1 => exact zb1); (case side2 => exact zb2); (case side3 => repeat (first | exact (Kd.R_reads' HO516.out).2.2 | (with_reducible refine Kd.C_alloc ?_ _) | (with_reducible refine Kd.C_drewN ?_ _) | (with_reducible refine Kd.C_drew ?_))); (case side4 => exact (Kd.R_reads' HO516.out).2.1); (case side5 => exact far_slice (IsS55.own_ne HI0.out HO516.out zb22)); rintro e w23 ⟨rfl, hi, hb, hk⟩; refine ⟨_, rfl, ?_⟩; replace HO_3 := Aside0.mk (Kd.R_mono (Kd.R_keep (IsS55.apart (show IsS55 w0 _ g s0_0 t512 t513 from zb1) (zR HO_3.out) zb22) hk (fun _ h => h.2)) (fun _ h => h.1)); replace HO516 := Aside0.mk (Kd.R_mono (Kd.R_keep (IsS55.apart (show IsS55 w0 _ g s0_0 t512 t513 from zb1) (zR HO516.out) zb22) hk (fun _ h => h.2)) (fun _ h => h.1)); replace HK := Aside0.mk (KeepBut.trans zb3 hk (.inl rfl)); replace HB := Aside0.mk hb; replace HI0 := Aside0.mk hi; (try clear hb); (try clear hb2); (try clear hk); (try clear hi); have p17 : 0 ≤ (t511 : Int) := of_decide_eq_true zb19; have q17 : (t511 : Int) < ((t504.length : Int) : Int) := of_decide_eq_true zb19; obtain ⟨go17, co17, eo17, gb17, gl17, cl17, HG17⟩ := Kd.R_form HO_3.out zb35; (first | cases eo17 | (injection eo17 with ea_ en_ ec_; (first | subst ea_ | (injection ea_ with ea_; subst ea_)); subst ec_; clear en_)); have GB17 := Aside0.mk gb17; have GG17 := Aside0.mk HG17; clear gb17 gl17 HG17; obtain ⟨ce17, hcl17, hM17, hcc17, hfr17⟩ := Kd.R_elem HO_3.out z45 (t511 : Int) p17 q17; obtain rfl := k45_openM hM17; have hx17_0 : w23.cell? ⟨go17, (t511 : Int).toNat * 2, none⟩ = some (.string ((rd_T45 t504 t511).f0)) := hcc17 0 _ rfl; have hx17_1 : w23.cell? ⟨go17, (t511 : Int).toNat * 2 + 1, none⟩ = some (.string ((rd_T45 t504 t511).f1)) := hcc17 1 _ rfl; have hf17_0 : w23.frozen? ⟨go17, (t511 : Int).toNat * 2, none⟩ = false := hfr17 0; have hf17_1 : w23.frozen? ⟨go17, (t511 : Int).toNat * 2 + 1, none⟩ = false := hfr17 1; clear hcl17 hcc17 hfr17 hM17; replace p17 := eq_true p17; replace q17 := eq_true q17; have HX24 := Aside0.mk (show Kd.R k45 45 w23 w.heap.size (fun _ => True) (.slice (some ⟨go17, 0, none⟩) t504.length co18) t504 from (zR HO_3.out)); obtain ⟨ce24, hcl24, hM24, hcc24, hfr24⟩ := Kd.R_elem HX24.out z45 (t511 : Int) (of_decide_eq_true zb19) (by have h_ : (t511 : Int) < ((t504.length : Int) : Int) := of_decide_eq_true zb19; first | exact h_ | (have e_ := (Kd.R_reads' HO_3.out).1; omega) | simpa using h_); obtain rfl := k45_openM hM24; have HP24 := Kd.R_seg HX24.out (t511 : Int) (of_decide_eq_true zb19) (by have h_ : (t511 : Int) < ((t504.length : Int) : Int) := of_decide_eq_true zb19; first | exact h_ | (have e_ := (Kd.R_reads' HO_3.out).1; omega) | simpa using h_) (seg := [.string t517]) (j := 0) hcl24 hcc24 (show 1 ≤ 2 from zb22) (x' := (⟨t517, (rd_T45 t504 t511).f1⟩ : S45)) (k45_mkM _ _ _ (⟨t517, (rd_T45 t504 t511).f1⟩ : S45) ) (fun _ hk => hk); have hx24_0 := hcc24 0 _ rfl; (try simp only [show (k45).sz = 2 from rfl, Nat.mul_one, Nat.add_zero] at hx24_0); have hf24_0 := hfr24 0; (try simp only [show (k45).sz = 2 from rfl, Nat.mul_one, Nat.add_zero] at hf24_0); clear hcl24 hcc24 hfr24 hM24) | ((with_reducible refine gate_store (t := 9) (p := 27) rfl ?_); refine store_event (t := 9) (p := 27) (v := ?vo_w25) (w1 := (w23.setCell ⟨go17, (t511 : Int).toNat * 2, none⟩ (.string t517))) ?hg ?ho ?hn ?hr ?_; (case ho => rfl); (case hg => rfl); (case hn => rfl); (case hr => exact zb18); intro w25 hw; have hg : w23.grownBy w25 (some go17) := (by rw [hw]; exact HP24.2); have hp_ : Kd.R k45 45 w25 w.heap.size (fun _ => True) (.slice (some ⟨go17, 0, none⟩) t504.length co18) y520 := (by rw [hw, Ny520.out]; exact HP24.1); clear HP24; replace HI0 := Aside0.mk (IsS55.grown zb1 hg (IsS55.own_ne HI0.out HO_3.out zb22)); replace HO516 := Aside0.mk (Kd.R_over' (v := (.slice (some ⟨go17, 0, none⟩) t504.length co18)) (zR HO516.out) (Kd.R_typed HO_3.out) zb22 hg); replace HB := Aside0.mk ((by rw [hw]; exact below_set (HB.out) (Nat.le_trans HL.out GB17.out) : Below w0.heap.size w0 w25)); replace HK := Aside0.mk (KeepBut.trans zb3 (KeepBut.of_grown hg g) (Kd.R_base2 HO_3.out)); replace HO_3 := Aside0.mk hp_; clear hg hw hp_))
      go_ret
      exact ⟨_, zb9, (zR HO_3.out), zb1, zb2, zb3⟩
     ·rw [if_neg c16] at H
      exact absurd H zb26
    ·rw [if_neg c15] at H
     exact absurd H zb26
   ·replace c12 := Bool.eq_false_iff.mpr c12
    subst c12
    rw [if_neg (show ¬ (false = true) by decide)] at H
    simp only [Option.some.injEq, Prod.mk.injEq] at H
    obtain ⟨rfl, rfl, rfl⟩ := H
    go_wp2
    go_ret
    exact ⟨_, zb9, (zR HO_3.out), zb1, zb2, zb3⟩
set_option maxHeartbeats 8000000 in
set_option maxRecDepth 100000 in
theorem spec_DrawPick.calls (k : Nat) (A0 : Option Addr) (c0 : Nat) (l0 : List Int) (r1 : List ByteArray) (r2 : List (S45)) (w : World) (hr0 : Kd.C (Kd.int .u8) w A0 l0.length l0) (hc0 : l0.length ≤ c0) (hGE : Glob FactE w) (hGM : Glob FactM w) (hGT : Glob FactT w) (h : spec_DrawPick.f k l0 = some (r1, r2)) :
  Calls Tryz.prog 5 #[.slice A0 l0.length c0] w fun e w' => ∃ v0_ v1_ : Value, e = .returned (.tuple #[v0_, v1_]) ∧ Kd.R Kd.string 9 w' w.heap.size (fun _ => True) v0_ r1 ∧ Kd.R k45 45 w' w.heap.size (fun _ => True) v1_ r2 ∧ Below w.heap.size w w' := by
 have HR0 := Aside0.mk hr0
 have HC0 := Aside0.mk hc0
 clear hr0 hc0
 have HB := Aside0.mk (Below.refl w.heap.size w)
 have HGE := Aside0.mk hGE
 clear hGE
 have HGM := Aside0.mk hGM
 clear hGM
 have HGT := Aside0.mk hGT
 clear hGT
 have H : ((spec_l01New.f k l0).bind fun bt521 => ((spec_l02List.f k bt521.1 bt521.2.1 bt521.2.2).bind fun bt525 => ((spec_l03Range.f k bt521.1 bt525.2.1 bt525.2.2).bind fun bt530 => (some (bt525.1, bt530.1))))) = some (r1, r2) := h
 clear h
 replace H := Option.bind_eq_some_iff.mp H
 obtain ⟨⟨t521, t522, t523⟩, A20, H⟩ := H
 try dsimp only at H
 have A2 := Aside0.mk A20
 clear A20
 replace H := Option.bind_eq_some_iff.mp H
 obtain ⟨⟨t525, t528, t529⟩, A30, H⟩ := H
 try dsimp only at H
 have A3 := Aside0.mk A30
 clear A30
 replace H := Option.bind_eq_some_iff.mp H
 obtain ⟨⟨t530, t533, t534⟩, A40, H⟩ := H
 try dsimp only at H
 have A4 := Aside0.mk A40
 clear A40
 simp only [Option.some.injEq, Prod.mk.injEq] at H
 obtain ⟨rfl, rfl⟩ := H
 go_enter Tryz.func5, Tryz.ntmps5
 go_wp2_with (first | ((with_reducible refine gate_callee (f := 16) rfl ?_); refine goesL_ (some 7) rfl rfl Tryz.func16 zb17 rfl #[.slice A0 l0.length c0] rfl zb4 ?_; (with_reducible refine (spec_l01New.calls k _ _ l0 t521 t522 t523 w _ ?side1 ?side2 ?side3 A2.out).mono ?_); (case side1 => exact zb7); (case side2 => exact HR0.out); (case side3 => exact HC0.out); rintro e w5 ⟨g524, rfl, hi, hb, hb2⟩; refine ⟨_, rfl, ?_⟩; replace HB := Aside0.mk hb; have HI524 := Aside0.mk hi; (try clear hb); (try clear hb2); (try clear hk); (try clear hi)) | ((with_reducible refine gate_callee (f := 17) rfl ?_); refine goesL_ (some 9) rfl rfl Tryz.func17 zb17 rfl #[.pointer (some ⟨g524, 0, none⟩)] rfl zb4 ?_; (with_reducible refine (spec_l02List.calls k g524 t521 t522 t523 t525 t528 t529 w _ ?side1 ?side2 ?side3 ?side4 ?side5 A3.out).mono ?_); (case side1 => exact zb28); (case side2 => exact zb25); (case side3 => exact HGE.out); (case side4 => exact HGM.out); (case side5 => exact HGT.out); rintro e w6 ⟨v526, rfl, ho0, hi, hb, hk⟩; refine ⟨_, rfl, ?_⟩; have HO527 := Aside0.mk (Kd.R_lower ho0 (below_size zb25)); replace HB := Aside0.mk hb; replace HI524 := Aside0.mk hi; (try clear hb); (try clear hb2); (try clear hk); (try clear hi); (try clear ho0)) | ((with_reducible refine gate_callee (f := 18) rfl ?_); refine goesL_ (some 12) rfl rfl Tryz.func18 zb17 rfl #[.pointer (some ⟨g524, 0, none⟩)] rfl zb4 ?_; (with_reducible refine (spec_l03Range.calls k g524 t521 t528 t529 t530 t533 t534 w _ ?side1 ?side2 ?side3 ?side4 ?side5 A4.out).mono ?_); (case side1 => exact zb28); (case side2 => exact zb25); (case side3 => exact HGE.out); (case side4 => exact HGM.out); (case side5 => exact HGT.out); rintro e w7 ⟨v531, rfl, ho0, hi, hb, hk⟩; refine ⟨_, rfl, ?_⟩; replace HO527 := Aside0.mk (Kd.R_mono (Kd.R_keep (IsS55.apart (show IsS55 w _ g524 t521 t528 t529 from zb28) (zR HO527.out) zb22) hk (fun _ h => h.2)) (fun _ h => h.1)); have HO532 := Aside0.mk (Kd.R_lower ho0 (below_size zb25)); replace HB := Aside0.mk hb; replace HI524 := Aside0.mk hi; (try clear hb); (try clear hb2); (try clear hk); (try clear hi); (try clear ho0)))
 go_ret2
 exact ⟨_, _, zb9, (zR HO527.out), (zR HO532.out), zb25⟩
set_option maxHeartbeats 8000000 in
set_option maxRecDepth 100000 in
theorem spec_DrawHoles.calls (k : Nat) (A0 : Option Addr) (c0 : Nat) (l0 : List Int) (r1 : List ByteArray) (r2 : List (S45)) (w : World) (hr0 : Kd.C (Kd.int .u8) w A0 l0.length l0) (hc0 : l0.length ≤ c0) (hGE : Glob FactE w) (hGM : Glob FactM w) (hGT : Glob FactT w) (h : spec_DrawHoles.f k l0 = some (r1, r2)) :
  Calls Tryz.prog 7 #[.slice A0 l0.length c0] w fun e w' => ∃ v0_ v1_ : Value, e = .returned (.tuple #[v0_, v1_]) ∧ Kd.R Kd.string 9 w' w.heap.size (fun _ => True) v0_ r1 ∧ Kd.R k45 45 w' w.heap.size (fun _ => True) v1_ r2 ∧ Below w.heap.size w w' := by
 have HR0 := Aside0.mk hr0
 have HC0 := Aside0.mk hc0
 clear hr0 hc0
 have HB := Aside0.mk (Below.refl w.heap.size w)
 have HGE := Aside0.mk hGE
 clear hGE
 have HGM := Aside0.mk hGM
 clear hGM
 have HGT := Aside0.mk hGT
 clear hGT
 have H : ((spec_l01New.f k l0).bind fun bt658 => ((spec_l02List.f k bt658.1 bt658.2.1 bt658.2.2).bind fun bt662 => ((spec_l02List.f k bt658.1 bt662.2.1 bt662.2.2).bind fun bt667 => (if bt662.1.length + bt667.1.length < 8796093022208 then ((spec_l03Range.f k bt658.1 bt667.2.1 bt667.2.2).bind fun bt675 => (some ((bt662.1 ++ bt667.1), bt675.1))) else (none))))) = some (r1, r2) := h
 clear h
 replace H := Option.bind_eq_some_iff.mp H
 obtain ⟨⟨t658, t659, t660⟩, A20, H⟩ := H
 try dsimp only at H
 have A2 := Aside0.mk A20
 clear A20
 replace H := Option.bind_eq_some_iff.mp H
 obtain ⟨⟨t662, t665, t666⟩, A30, H⟩ := H
 try dsimp only at H
 have A3 := Aside0.mk A30
 clear A30
 replace H := Option.bind_eq_some_iff.mp H
 obtain ⟨⟨t667, t670, t671⟩, A40, H⟩ := H
 try dsimp only at H
 have A4 := Aside0.mk A40
 clear A40
 by_cases c5 : t662.length + t667.length < 8796093022208
 ·rw [if_pos c5] at H
  have LMc5 := Aside0.mk c5
  clear c5
  obtain ⟨y672, hy672⟩ : ∃ y_ : List ByteArray, y_ = (t662 ++ t667) := ⟨_, rfl⟩
  replace H : ((spec_l03Range.f k t658 t670 t671).bind fun bt675 => (some (y672, bt675.1))) = some (r1, r2) := by first | (rw [hy672]; with_reducible exact H) | (have H2_ := (Option.bind_some _ _).symm.trans H; rw [hy672]; with_reducible exact H2_) | (have H2_ := (Option.bind_some _ _).symm.trans H; with_reducible exact H2_) | with_reducible exact H | (rw [hy672]; exact H) | exact H
  have Ny672 := Aside0.mk hy672
  clear hy672
  replace H := Option.bind_eq_some_iff.mp H
  obtain ⟨⟨t675, t678, t679⟩, A60, H⟩ := H
  try dsimp only at H
  have A6 := Aside0.mk A60
  clear A60
  simp only [Option.some.injEq, Prod.mk.injEq] at H
  obtain ⟨rfl, rfl⟩ := H
  go_enter Tryz.func7, Tryz.ntmps7
  go_wp2_with (first | ((with_reducible refine gate_callee (f := 16) rfl ?_); refine goesL_ (some 7) rfl rfl Tryz.func16 zb17 rfl #[.slice A0 l0.length c0] rfl zb4 ?_; (with_reducible refine (spec_l01New.calls k _ _ l0 t658 t659 t660 w _ ?side1 ?side2 ?side3 A2.out).mono ?_); (case side1 => exact zb7); (case side2 => exact HR0.out); (case side3 => exact HC0.out); rintro e w7 ⟨g661, rfl, hi, hb, hb2⟩; refine ⟨_, rfl, ?_⟩; replace HB := Aside0.mk hb; have HI661 := Aside0.mk hi; (try clear hb); (try clear hb2); (try clear hk); (try clear hi)) | ((with_reducible refine gate_callee (f := 17) rfl ?_); refine goesL_ (some 9) rfl rfl Tryz.func17 zb17 rfl #[.pointer (some ⟨g661, 0, none⟩)] rfl zb4 ?_; (with_reducible refine (spec_l02List.calls k g661 t658 t659 t660 t662 t665 t666 w _ ?side1 ?side2 ?side3 ?side4 ?side5 A3.out).mono ?_); (case side1 => exact zb16); (case side2 => exact zb12); (case side3 => exact HGE.out); (case side4 => exact HGM.out); (case side5 => exact HGT.out); rintro e w8 ⟨v663, rfl, ho0, hi, hb, hk⟩; refine ⟨_, rfl, ?_⟩; have HO664 := Aside0.mk (Kd.R_lower ho0 (below_size zb12)); replace HB := Aside0.mk hb; replace HI661 := Aside0.mk hi; (try clear hb); (try clear hb2); (try clear hk); (try clear hi); (try clear ho0)) | ((with_reducible refine gate_callee (f := 17) rfl ?_); refine goesL_ (some 11) rfl rfl Tryz.func17 zb17 rfl #[.pointer (some ⟨g661, 0, none⟩)] rfl zb4 ?_; (with_reducible refine (spec_l02List.calls k g661 t658 t665 t666 t667 t670 t671 w _ ?side1 ?side2 ?side3 ?side4 ?side5 A4.out).mono ?_); (case side1 => exact zb16); (case side2 => exact zb12); (case side3 => exact HGE.out); (case side4 => exact HGM.out); (case side5 => exact HGT.out); rintro e w9 ⟨v668, rfl, ho0, hi, hb, hk⟩; refine ⟨_, rfl, ?_⟩; have HO669 := Aside0.mk (Kd.R_lower (Kd.R_new' ho0 (Kd.R_lt (zR HO664.out))) (below_size zb12)); replace HO664 := Aside0.mk (Kd.R_mono (Kd.R_told (Kd.R_oldK (IsS55.apart (show IsS55 w _ g661 t658 t665 t666 from zb16) (zR HO664.out) zb22) hk) (Kd.R_base ho0)) (fun _ h_ => h_.1)); replace HB := Aside0.mk hb; replace HI661 := Aside0.mk hi; (try clear hb); (try clear hb2); (try clear hk); (try clear hi); (try clear ho0); obtain ⟨Ao11, co11, eo11⟩ := Kd.R_slice HO669.out; subst eo11) | ((with_reducible refine gate_builtin (b := .append) (xs := #[.tmp 9, .tmp 11]) rfl ?_); at_builtin; refine Kd.R_append_rows Kd.string (w0 := w) w.heap.size rfl (.tmp 9) (.tmp 11) 24 9 (.string ⟨#[]⟩) 16 rfl Tryz.underlying24 info9 rfl zb22 zb35 v663 t662 t667 _ _ _ (fun k_ => some k_ ≠ (.slice Ao11 t667.length co11 : Value).ownBlock) (fun _ => False) rfl rfl ?aO ?aR (fun _ _ h => h) (fun _ h => h.elim) ?aF ?aB ?aS ?aL ?_; (case aR => repeat (first | exact (Kd.R_reads' HO669.out).2.2 | (with_reducible refine Kd.C_alloc ?_ _) | (with_reducible refine Kd.C_drewN ?_ _) | (with_reducible refine Kd.C_drew ?_))); (case aB => exact zb12); (case aF => exact (fun k_ hk => Kd.fresh' (Kd.R_lt (zR HO669.out)) k_ hk)); (case aO => exact (zR (Kd.R_mono HO664.out (fun _ hk => hk.2)))); (case aS => exact (below_size zb12)); (case aL => have := LMc5.out; omega); intro v673 w10 ho hb hg hat; rw [← Ny672.out] at ho; replace HI661 := Aside0.mk (IsS55.grown zb16 hg (IsS55.own_ne HI661.out HO664.out zb22)); replace HO669 := Aside0.mk (Kd.R_after (ok := (fun _ => True)) (zR HO669.out) hg hat); replace HB := Aside0.mk hb; have HO674 := Aside0.mk ho; clear HO664 ho hb hg hat) | ((with_reducible refine gate_callee (f := 18) rfl ?_); refine goesL_ (some 15) rfl rfl Tryz.func18 zb17 rfl #[.pointer (some ⟨g661, 0, none⟩)] rfl zb4 ?_; (with_reducible refine (spec_l03Range.calls k g661 t658 t670 t671 t675 t678 t679 w _ ?side1 ?side2 ?side3 ?side4 ?side5 A6.out).mono ?_); (case side1 => exact zb16); (case side2 => exact zb12); (case side3 => exact HGE.out); (case side4 => exact HGM.out); (case side5 => exact HGT.out); rintro e w12 ⟨v676, rfl, ho0, hi, hb, hk⟩; refine ⟨_, rfl, ?_⟩; replace HO669 := Aside0.mk (Kd.R_mono (Kd.R_keep (IsS55.apart (show IsS55 w _ g661 t658 t670 t671 from zb16) (zR HO669.out) zb22) hk (fun _ h => h.2)) (fun _ h => h.1)); replace HO674 := Aside0.mk (Kd.R_mono (Kd.R_keep (IsS55.apart (show IsS55 w _ g661 t658 t670 t671 from zb16) (zR HO674.out) zb22) hk (fun _ h => h.2)) (fun _ h => h.1)); have HO677 := Aside0.mk (Kd.R_lower ho0 (below_size zb12)); replace HB := Aside0.mk hb; replace HI661 := Aside0.mk hi; (try clear hb); (try clear hb2); (try clear hk); (try clear hi); (try clear ho0)))
  go_ret2
  exact ⟨_, _, zb9, (zR (Kd.R_mono HO674.out (fun _ hk => trivial))), (zR HO677.out), zb12⟩
 ·rw [if_neg c5] at H
  exact absurd H zb26
end Go.Proofs.YtoidompkofomjaaGreatDoor.G

end
section
namespace Go.Proofs.YtoidompkofomjaaGreatDoor.VI
open Go Go.RowKit Go.Proofs.YtoidompkofomjaaGreatDoor.G Go.Proofs.YtoidompkofomjaaGreatDoorW.PrintWords
set_option maxRecDepth 100000
set_option maxHeartbeats 1000000
noncomputable def code20 : Code := match Tryz.f19.body with
  | some c => c
  | none => .skip
def sL : Code → Code
  | .seq a _ => a
  | c => c
def sR : Code → Code
  | .seq _ b => b
  | c => c
noncomputable def pre3 (C : Cx) (kp : Nat → Option (List Nat)) (env : Env) : Option VV := run C kp (sL code20) 0 env fun e e1 => match e with
  | .normal => run C kp (sL (sR code20)) 0 e1 fun e e2 => (match e with
    | .normal => run C kp (sL (sR (sR code20))) 0 e2 fun e e3 => (match e with
      | .normal => must (Nat.beq e3.length 24) (some (get e3 3))
      | _ => none)
    | _ => none)
  | _ => none
section
attribute [local irreducible] bite obind vget
theorem impl_SortPre.run {k m : Nat} (hm : k + 9 ≤ m) (l0 : List ByteArray) : Im (fun r => VV.ow 9 1 (r.map VV.str)) (impl_SortPre.f k l0) (pre3 ⟨ti, callv Tryz.prog ti keep Gv0 m, m⟩ (keep 19) (start Tryz.f19 [.sl (l0.map VV.str)])) := by
  unfold impl_SortPre.f pre3
  repeat' first
    | (with_reducible first | exact Im.none | refine Im.ite (fun h => ?_) (fun h => ?_) | refine Im.sbind ?_)
    | ((conv => arg 3; whnf); first
      | ((with_reducible refine Im.fin ?_); exact zr)
      | ((with_reducible refine Im.anyo ?_ ?_); (next => kernel_rfl))
      | ((with_reducible refine Im.bite_t ?_ ?_); (next => exact zq))
      | ((with_reducible refine Im.bite_f ?_ ?_); (next => exact zq))
      | ((with_reducible refine Im.bite_t ?_ ?_); (next => exact zd))
      | ((with_reducible refine Im.must ?_ ?_); (next => exact zd))
      | ((with_reducible refine Im.bite_f ?_ ?_); (next => exact zd))
      | (with_reducible refine Im.byl ?_)
      | ((with_reducible refine Im.vget ByteArray.empty ?_ ?_ ?_); (next => exact zd); (next => exact zd))
      | ((with_reducible refine Im.vget z45 ?_ ?_ ?_); (next => exact zd); (next => exact zd))
      | ((with_reducible refine Im.vget (0 : Int) ?_ ?_ ?_); (next => exact zd); (next => exact zd))
      | ((with_reducible refine Im.vget false ?_ ?_ ?_); (next => exact zd); (next => exact zd))
      | ((with_reducible refine Im.call (impl_isVersion.vi base0 ?_ _) ?_ (fun r hr => ?_)); (next => omega); (next => exact zr))
      | ((with_reducible refine Im.loop (S := fun s : List ByteArray × List ByteArray × Int × Int => [.un, .un, .un, .ow 9 1 (s.1.map VV.str), .un, .un, .un, .sl (s.2.1.map VV.str), .int s.2.2.1, .int s.2.2.2, .un, .un, .un, .un, .un, .un, .un, .un, .un, .un, .un, .un, .un, .un]) (L := fun k s => impl_SortPre.l0 k s.1 s.2.1 s.2.2.1 s.2.2.2) _ ?_ ?_ _ _ ⟨_, _, _, _⟩ _ (Nat.le_refl _) zo ?_)
         (next => intro s; rfl)
         (next =>
           intro k1 M1 ⟨x3, x7, x8, x9⟩ hk1 hM1 ih1
           conv => arg 2; simp only [impl_SortPre.l0]
           repeat' first
             | (with_reducible first | exact Im.none | refine Im.ite (fun h => ?_) (fun h => ?_) | refine Im.sbind ?_)
             | ((conv => arg 3; whnf); first
               | ((with_reducible refine Im.fin ?_); exact zr)
               | ((with_reducible refine Im.anyo ?_ ?_); (next => kernel_rfl))
               | ((with_reducible refine Im.bite_t ?_ ?_); (next => exact zq))
               | ((with_reducible refine Im.bite_f ?_ ?_); (next => exact zq))
               | ((with_reducible refine Im.bite_t ?_ ?_); (next => exact zd))
               | ((with_reducible refine Im.must ?_ ?_); (next => exact zd))
               | ((with_reducible refine Im.bite_f ?_ ?_); (next => exact zd))
               | (with_reducible refine Im.byl ?_)
               | ((with_reducible refine Im.vget ByteArray.empty ?_ ?_ ?_); (next => exact zd); (next => exact zd))
               | ((with_reducible refine Im.vget z45 ?_ ?_ ?_); (next => exact zd); (next => exact zd))
               | ((with_reducible refine Im.vget (0 : Int) ?_ ?_ ?_); (next => exact zd); (next => exact zd))
               | ((with_reducible refine Im.vget false ?_ ?_ ?_); (next => exact zd); (next => exact zd))
               | ((with_reducible refine Im.call (impl_isVersion.vi base0 ?_ _) ?_ (fun r hr => ?_)); (next => omega); (next => exact zr))
               | ((with_reducible refine ih1 _ ⟨_, _, _, _⟩ _ ?_ ?_); (next => exact zo); exact zr)
               | exact zm | exact zx | fail)
           all_goals skip)
         exact zr)
      | exact zm | exact zx | fail)
  all_goals skip
end
end Go.Proofs.YtoidompkofomjaaGreatDoor.VI

end
section
namespace Go.Proofs.YtoidompkofomjaaGreatDoor.U
open Go
set_option linter.unusedVariables false
set_option linter.unusedSimpArgs false
def ResUp {α : Type} (n : Nat) : Result α → Prop
  | .ok _ w => n ≤ w.drawn
  | .halt _ w => n ≤ w.drawn
theorem ask_up {α : Type} : ∀ (k : Ask α) (w : World), w.drawn ≤ (w.ask k).2.drawn
  | .done a, w => Nat.le_refl _
  | .ask what range k, w => by
    unfold World.ask
    by_cases h : (Question.extern what range).forced = true
    · simp only [h, if_true]; exact ask_up (k 0) w
    · simp only [h, if_false, Bool.false_eq_true]
      exact Nat.le_trans (Nat.le_succ _) (ask_up (k _) { w with drawn := w.drawn + 1 })
theorem sys_up (w : World) (c : Sys) : w.drawn ≤ (w.sys c).2.drawn := by
  have h := ask_up (Kernel.perform c w.os) w
  unfold World.sys
  split
  · exact Nat.le_refl _
  · rename_i e; rw [e] at h; exact h
theorem viewStore_up {p : Program} {w : World} {a : Addr} {u : TypeId} {k : Addr} {v : Value} {at_ : Bool} {w' : World} {l : List Addr} (h : w.viewStore p a u k v at_ = .ok (w', l)) : w'.drawn = w.drawn := by
  unfold World.viewStore at h
  simp only [bind, Except.bind, pure, Except.pure, throw, throwThe, MonadExceptOf.throw] at h
  repeat' (split at h)
  all_goals first
    | (cases h; rfl)
    | cases h
theorem farStore_up {p : Program} {w : World} {a : Addr} {v : Value} {at_ : Bool} {w' : World} {l : List Addr} (h : w.farStore p a v at_ = .ok (w', l)) : w'.drawn = w.drawn := by
  unfold World.farStore at h
  split at h
  · split at h
    · rename_i e; cases h; exact viewStore_up e
    · cases h
  · cases h
theorem resup_le {α : Type} {n m : Nat} {r : Result α} (h : n ≤ m) (k : ResUp m r) : ResUp n r := by
  cases r <;> exact Nat.le_trans h k
theorem freeze_up (w : World) (a : Addr) (n : Nat) : (w.freeze a n).drawn = w.drawn := by
  unfold World.freeze
  split <;> rfl
theorem run_up {α : Type} (p : Program) (s : Sem α) : ∀ w : World, ResUp w.drawn (s.run p w) := by
  induction s with
  | pure a => intro w; exact Nat.le_refl _
  | load m a k ih =>
    intro w; rw [Sem.run]
    split
    · exact ih _ w
    · split
      · exact ih _ w
      · exact Nat.le_refl _
  | store m a v k ih =>
    intro w
    have other : (match w.cell? a with | some _ => if w.frozen? a then .halt (.unsupported (.unsafePointer "a write to bytes that a string shares")) w else k.run p (w.setCell a v) | none => match w.farStore p a v (m == .atomic) with | .ok (w, _) => k.run p w | .error h => .halt h w : Result α) = (match w.cell? a with | some _ => if w.frozen? a then .halt (.unsupported (.unsafePointer "a write to bytes that a string shares")) w else k.run p (w.setCell a v) | none => match w.farStore p a v (m == .atomic) with | .ok (w, _) => k.run p w | .error h => .halt h w : Result α) := rfl
    have key : ResUp w.drawn (match w.cell? a with | some _ => if w.frozen? a then .halt (.unsupported (.unsafePointer "a write to bytes that a string shares")) w else k.run p (w.setCell a v) | none => match w.farStore p a v (m == .atomic) with | .ok (w, _) => k.run p w | .error h => .halt h w : Result α) := by
      split
      · split
        · exact Nat.le_refl _
        · exact ih (w.setCell a v)
      · split
        · rename_i w2 _ e
          have := farStore_up e
          rw [← this]; exact ih w2
        · exact Nat.le_refl _
    cases v <;> first | (rw [Sem.run]; exact Nat.le_refl _) | (rw [Sem.run]; exact key; all_goals (intro _ h; cases h))
  | new o k ih => intro w; rw [Sem.run]; exact ih _ { w with heap := w.heap.push o }
  | shape r k ih => intro w; rw [Sem.run]; exact ih _ w
  | freeze a n k ih => intro w; rw [Sem.run]; have := ih (w.freeze a n); rw [freeze_up] at this; exact this
  | frozen a k ih => intro w; rw [Sem.run]; exact ih _ w
  | getObj r k ih =>
    intro w; rw [Sem.run]
    split
    · exact Nat.le_refl _
    · exact ih _ w
    · exact Nat.le_refl _
  | setObj r o k ih =>
    intro w; rw [Sem.run]
    split
    · exact Nat.le_refl _
    · exact ih { w with heap := w.heap.setIfInBounds r o }
    · exact Nat.le_refl _
  | choose q k ih =>
    intro w; rw [Sem.run]
    split
    · exact ih _ w
    · exact resup_le (Nat.le_succ _) (ih _ { w with drawn := w.drawn + 1 })
  | sys c k ih => intro w; rw [Sem.run]; exact resup_le (sys_up w c) (ih _ _)
  | program k ih => intro w; rw [Sem.run]; exact ih _ w
  | mark m k ih => intro w; rw [Sem.run]; exact ih w
  | halt h => intro w; exact Nat.le_refl _
theorem runT_up {α : Type} (p : Program) (s : Sem α) : ∀ (w : World) (es : Array Event), ResUp w.drawn (s.runT p w es).1 := by
  induction s with
  | pure a => intro w es; exact Nat.le_refl _
  | load m a k ih =>
    intro w es; rw [Sem.runT]
    split
    · exact ih _ w _
    · split
      · exact ih _ w _
      · exact Nat.le_refl _
  | store m a v k ih =>
    intro w es
    have key : ResUp w.drawn (match w.cell? a with | some _ => if w.frozen? a then (.halt (.unsupported (.unsafePointer "a write to bytes that a string shares")) w, es) else k.runT p (w.setCell a v) (es.push ⟨.cell a, true, m == .atomic⟩) | none => match w.farStore p a v (m == .atomic) with | .ok (w, touched) => k.runT p w (es ++ touched.toArray.map (⟨.cell ·, true, m == .atomic⟩)) | .error h => (.halt h w, es) : Result α × Array Event).1 := by
      split
      · split
        · exact Nat.le_refl _
        · exact ih (w.setCell a v) _
      · split
        · rename_i w2 _ e
          have := farStore_up e
          rw [← this]; exact ih w2 _
        · exact Nat.le_refl _
    cases v <;> first | (rw [Sem.runT]; exact Nat.le_refl _) | (rw [Sem.runT]; exact key; all_goals (intro _ h; cases h))
  | new o k ih => intro w es; rw [Sem.runT]; exact ih _ { w with heap := w.heap.push o } _
  | shape r k ih => intro w es; rw [Sem.runT]; exact ih _ w _
  | freeze a n k ih => intro w es; rw [Sem.runT]; have := ih (w.freeze a n) es; rw [freeze_up] at this; exact this
  | frozen a k ih => intro w es; rw [Sem.runT]; exact ih _ w _
  | getObj r k ih =>
    intro w es; rw [Sem.runT]
    split
    · exact Nat.le_refl _
    · exact ih _ w _
    · exact Nat.le_refl _
  | setObj r o k ih =>
    intro w es; rw [Sem.runT]
    split
    · exact Nat.le_refl _
    · exact ih { w with heap := w.heap.setIfInBounds r o } _
    · exact Nat.le_refl _
  | choose q k ih =>
    intro w es; rw [Sem.runT]
    split
    · exact ih _ w _
    · exact resup_le (Nat.le_succ _) (ih _ { w with drawn := w.drawn + 1 } _)
  | sys c k ih => intro w es; rw [Sem.runT]; exact resup_le (sys_up w c) (ih _ _ _)
  | program k ih => intro w es; rw [Sem.runT]; exact ih _ w _
  | mark m k ih => intro w es; rw [Sem.runT]; exact ih w _
  | halt h => intro w es; exact Nat.le_refl _
theorem run_ok {α : Type} {p : Program} {s : Sem α} {w w' : World} {a : α} (h : s.run p w = .ok a w') : w.drawn ≤ w'.drawn := by have := run_up p s w; rw [h] at this; exact this
theorem run_halt {α : Type} {p : Program} {s : Sem α} {w w' : World} {a : Halt} (h : s.run p w = .halt a w') : w.drawn ≤ w'.drawn := by have := run_up p s w; rw [h] at this; exact this
theorem runT_ok {α : Type} {p : Program} {s : Sem α} {w : World} {es es' : Array Event} {r : Result α} (h : s.runT p w es = (r, es')) : ResUp w.drawn r := by have := runT_up p s w es; rw [h] at this; exact this
theorem runT1 {α : Type} {p : Program} {s : Sem α} {w : World} {es : Array Event} {r : Result α} (h : (s.runT p w es).1 = r) : ResUp w.drawn r := h ▸ runT_up p s w es
def GUp (n : Nat) : GStep → Prop
  | .go _ w _ | .comm _ _ _ _ w _ | .spawn _ _ w _ | .count _ w _ | .timer _ _ w _ | .alone _ _ w _ | .newcoro _ _ _ w _ | .coroswitch _ _ _ w _ | .collect _ w _ | .watch _ w _ => n ≤ w.drawn
  | .ended .. => True
theorem after_up {n : Nat} {es : Array Event} {s : GStep} (h : GUp n s) : GUp n (GStep.after es s) := by cases s <;> exact h
theorem gup_le {n m : Nat} {s : GStep} (h : n ≤ m) (k : GUp m s) : GUp n s := by
  cases s <;> first | exact Nat.le_trans h k | exact trivial
theorem endThrow_up (fr : Frame) (m : String) (w : World) : GUp w.drawn (endThrow fr m w) := Nat.le_refl _
theorem endPrinting_up (p : Program) (fr : Frame) (v : Value) (w : World) : GUp w.drawn (endPrinting p fr v w) := by
  unfold endPrinting
  dsimp only
  split
  · exact endThrow_up _ _ _
  · exact trivial
theorem endWith_up (w : World) (fd : Nat) (t : ByteArray) (o : Outcome) (n : Nat) : GUp n (endWith w fd t o) := by
  unfold endWith
  dsimp only
  split
  · split <;> exact trivial
  · exact trivial
  · exact trivial
theorem endFatal_up (p : Program) (fr : Frame) (cs : List Frame) (d : Option Dying) (m : String) (w : World) : GUp w.drawn (endFatal p fr cs d m w) := by
  unfold endFatal
  dsimp only
  split
  · rename_i e; have h := run_ok e; exact h
  · exact trivial
  · exact trivial
theorem writeOn_up (p : Program) (fr : Frame) (d : Dying) (f : Fatal) (w : World) : GUp w.drawn (writeOn p fr d f w) := by
  unfold writeOn
  dsimp only
  split
  · exact trivial
  · split
    · rename_i e; have h := runT_ok e; exact h
    · rename_i e; have h := runT_ok e; exact h
    · exact trivial
    · exact trivial
theorem die_up (p : Program) (fr : Frame) (d : Dying) (w : World) : GUp w.drawn (die p fr d w) := by
  unfold die
  split
  · exact writeOn_up _ _ _ _ _
  · split
    · split
      · exact Nat.le_refl _
      · exact endWith_up _ _ _ _ _
    · dsimp only
      split
      · exact Nat.le_refl _
      · split
        · rename_i e; have h := run_ok e; exact h
        · exact trivial
      · refine after_up ?_
        split
        · rename_i e; have h := runT1 e; exact h
        · rename_i e; have h := runT1 e; exact h
        · exact trivial
        · rename_i e; have h := runT1 e; exact gup_le h (endPrinting_up _ _ _ _)
        · exact trivial
      · exact trivial
theorem doReturn_up (p : Program) (main : Bool) (fr : Frame) (cs : List Frame) (d : Option Dying) (v : Value) (w : World) : GUp w.drawn (doReturn p main fr cs d v w) := by
  unfold doReturn
  split
  · split <;> exact Nat.le_refl _
  · split
    · exact Nat.le_refl _
    · exact trivial
    · split
      · exact Nat.le_refl _
      · split
        · exact Nat.le_refl _
        · exact trivial
theorem gup_ite {n : Nat} {c : Prop} [Decidable c] {a b : GStep} (ha : GUp n a) (hb : GUp n b) : GUp n (if c then a else b) := by
  split
  · exact ha
  · exact hb
theorem callDeferred_up (p : Program) (fr : Frame) (cs : List Frame) (dy : Option Dying) (d : Deferred) (w : World) : GUp w.drawn (callDeferred p fr cs dy d w) := by
  unfold callDeferred
  refine gup_ite trivial ?_
  dsimp only
  refine after_up ?_
  have h := runT_up p (invoke d.target d.args) w #[]
  generalize (Sem.runT p (invoke d.target d.args) w #[]).1 = r at h ⊢
  repeat' split
  all_goals first | exact trivial | exact h | exact gup_le h (endFatal_up _ _ _ _ _ _) | exact gup_le h (endThrow_up _ _ _)
theorem unwind_up (p : Program) (main : Bool) (fr : Frame) (cs : List Frame) (dy : Option Dying) (w : World) : GUp w.drawn (unwind p main fr cs dy w) := by
  unfold unwind
  split
  · rename_i block _ _ _
    refine after_up ?_
    split
    · rename_i e; have h := runT1 e; exact h
    · exact trivial
  · exact callDeferred_up _ _ _ _ _ _
  · split
    · exact trivial
    · split
      · exact trivial
      · split
        · exact Nat.le_refl _
        · split
          · split
            · exact Nat.le_refl _
            · split
              · rename_i e; have h := run_ok e; exact h
              · exact trivial
              · exact trivial
          · split
            · exact endPrinting_up _ _ _ _
            · exact trivial
    · split
      · exact doReturn_up _ _ _ _ _ _ _
      · refine after_up ?_
        rename_i fn _
        split
        · rename_i e; have h := runT1 e; exact gup_le h (doReturn_up _ _ _ _ _ _ _)
        · exact trivial
        · exact trivial
theorem early_up (p : Program) (fr : Frame) (cs : List Frame) (dy : Option Dying) (g : Nat) (w : World) : GUp w.drawn (early p fr cs dy g w) := by
  have ny : ∀ w : World, GUp w.drawn (match w.heap[g]? with | some (.pending c elem) => .go { frame := fr, callers := cs, status := .running, dying := dy } { w with heap := w.heap.setIfInBounds g (.cells c elem) } | _ => .ended (.stuck "early: the variable does not wait" (fr.pos p)) w) := by
    intro w
    split
    · exact Nat.le_refl _
    · exact trivial
  unfold early
  dsimp only
  repeat' split
  all_goals first
    | exact trivial
    | exact Nat.le_refl _
    | (have h := run_ok ‹Sem.run p (choose (Question.early g)) w = Result.ok _ _›; exact h)
theorem apply_up (p : Program) (fr : Frame) (cs : List Frame) (dy : Option Dying) (s : Sem Next) (w : World) (listen : Bool) : GUp w.drawn (stepG.apply p listen fr cs dy s w) := by
  unfold stepG.apply
  dsimp only
  refine after_up ?_
  have h : ResUp w.drawn (if listen = true then Sem.runT p s w #[] else (Sem.run p s w, #[])).1 := by
    split
    · exact runT_up p s w #[]
    · exact run_up p s w
  generalize (if listen = true then Sem.runT p s w #[] else (Sem.run p s w, #[])).1 = r at h ⊢
  repeat' split
  all_goals first | exact trivial | exact h | exact gup_le h (endFatal_up _ _ _ _ _ _) | exact gup_le h (endThrow_up _ _ _) | exact gup_le h (early_up _ _ _ _ _ _)
theorem oper_up (p : Program) (fr : Frame) (cs : List Frame) (dy : Option Dying) (w : World) (listen : Bool) : GUp w.drawn (stepG.oper p listen fr cs dy w) := by
  unfold stepG.oper
  split
  · exact trivial
  · split <;> exact apply_up _ _ _ _ _ _ _
theorem elim_up {α : Type} {n : Nat} {o : Option α} {a : GStep} {f : α → GStep} (ha : GUp n a) (hf : ∀ x, GUp n (f x)) : GUp n (o.elim a f) := by
  cases o with
  | none => exact ha
  | some x => exact hf x
theorem exec_up (p : Program) (main : Bool) (fr : Frame) (cs : List Frame) (dy : Option Dying) (w : World) (listen : Bool) : GUp w.drawn (stepG.exec p main listen fr cs dy w) := by
  have leave : ∀ (b : Bool) (jump : Option Code), GUp w.drawn (match fr.roundOf with
      | none => if b = true then (.go { frame := { fr with mode := .returning }, callers := cs, status := .running, dying := dy } w) else (.ended (.stuck "exit, goto: no such block or label" (fr.pos p)) w)
      | some l =>
        GStep.after (seen p fr.fn ((Instr.endRound l jump).runT p w #[]).2) (match ((Instr.endRound l jump).runT p w #[]).1 with
        | .ok v w => doReturn p main fr cs dy v w
        | .halt _ w => .ended (.stuck "range over a function: no such loop" (fr.pos p)) w)) := by
    intro b jump
    split
    · refine gup_ite (Nat.le_refl _) trivial
    · refine after_up ?_
      split
      · rename_i e; have h := runT1 e; exact gup_le h (doReturn_up _ _ _ _ _ _ _)
      · exact trivial
  unfold stepG.exec
  dsimp only
  split
  all_goals first
    | exact Nat.le_refl _
    | exact trivial
    | exact leave true _
    | exact leave false _
    | exact elim_up (leave false _) (fun _ => Nat.le_refl _)
    | exact apply_up _ _ _ _ _ _ _
    | exact elim_up trivial (fun _ => apply_up _ _ _ _ _ _ _)
    | exact gup_ite (oper_up _ _ _ _ _ _) (Nat.le_refl _)
    | (split <;> first | exact Nat.le_refl _ | exact trivial)
    | skip
  · refine after_up ?_
    split
    · rename_i e; have h := runT1 e; exact gup_le h (apply_up _ _ _ _ _ _ _)
    · exact trivial
  · refine after_up ?_
    split
    · rename_i e; have h := runT1 e; exact h
    · rename_i e; have h := runT1 e; exact h
    · exact trivial
  · refine gup_ite (Nat.le_refl _) ?_
    split
    · rename_i e; have h := run_ok e; exact h
    · exact trivial
theorem stepG_up (p : Program) (main : Bool) (g : Goroutine) (w : World) (listen : Bool) : GUp w.drawn (stepG p main g w listen) := by
  unfold stepG
  dsimp only
  split
  · exact die_up _ _ _ _
  · exact exec_up _ _ _ _ _ _ _
  · exact unwind_up _ _ _ _ _ _
def SUp (n : Nat) : Stepped → Prop
  | .next m => n ≤ m.world.drawn
  | .ended .. => True
theorem sup_le {n m : Nat} {s : Stepped} (h : n ≤ m) (k : SUp m s) : SUp n s := by
  cases s <;> first | exact Nat.le_trans h k | exact trivial
theorem waitingAt_up {rest : Rest} {cases_ : Array CommCase} {w w' : World} (h : waitingAt rest cases_ w = some w') : w'.drawn = w.drawn := by
  unfold waitingAt at h
  split at h
  · split at h
    · cases h; rfl
    · cases h
  · cases h; rfl
theorem communicate_up (p : Program) (rest : Rest) (gs : Array Goroutine) (i : Nat) (g : Goroutine) (cs : Array CommCase) (b : Bool) (sh : CommShape) (w : World) : SUp w.drawn (communicate p rest gs i g cs b sh w).1 := by
  unfold communicate
  dsimp only
  split
  · exact trivial
  · split
    · split
      · split
        · rename_i e; have := waitingAt_up e; show w.drawn ≤ _; rw [← this]; exact Nat.le_refl _
        · exact trivial
      · exact Nat.le_refl _
    · split
      · exact trivial
      · rename_i e
        have h := run_ok e
        refine sup_le h ?_
        clear e h
        split
        · split
          · rename_i e2; have h := run_halt e2; exact h
          · exact trivial
        · exact Nat.le_refl _
        · exact Nat.le_refl _
        · split
          · exact Nat.le_refl _
          · split
            · rename_i e2; have h := run_ok e2; exact h
            · exact trivial
        · exact Nat.le_refl _
        · exact Nat.le_refl _
        · exact trivial
theorem look_up (p : Program) (gs : Array Goroutine) (rest : Rest) (w : World) : SUp w.drawn (look p gs rest w) := by
  unfold look
  split
  · dsimp only
    split
    · exact trivial
    · split
      · exact trivial
      · split
        · rename_i e; have h := run_ok e; exact h
        · exact trivial
        · exact trivial
  · exact trivial
theorem serve_up (p : Program) (m : Machine) (k : Nat) : SUp m.world.drawn (serve p m k) := by
  unfold serve
  split
  · exact trivial
  · exact Nat.le_refl _
  · dsimp only
    split
    · exact trivial
    · exact Nat.le_refl _
theorem drain_up (w : World) (c : Nat) : (drain w c).2.drawn = w.drawn := by
  unfold drain
  split <;> rfl
theorem retime_up (m : Machine) (k : Nat) (t : Timer) (a b : Nat) : (retime m k t a b).2.world.drawn = m.world.drawn := by
  unfold retime
  dsimp only
  split
  · exact drain_up _ _
  · rfl
theorem named_up {m m0 : Machine} {var : Addr} {f : Nat → Timer → Value × Machine} (hf : ∀ k t, (f k t).2.world.drawn = m0.world.drawn) {v : Value} {m' : Machine} (h : timerOp.named m var f = .ok (v, m')) : m'.world.drawn = m0.world.drawn := by
  unfold timerOp.named at h
  split at h
  · rename_i c _; injection h with h; have k := hf c (m.rest.timers.getD c default); rw [h] at k; exact k
  · cases h
theorem opened_up {m m' : Machine} {var : Addr} (h : timerOp.opened m var = some m') : m'.world.drawn = m.world.drawn := by
  unfold timerOp.opened at h
  split at h
  · split at h
    · cases h; rfl
    · cases h
  · cases h; rfl
theorem timerOp_up {m m' : Machine} {op : TimerOp} {v : Value} (h : timerOp m op = .ok (v, m')) : m'.world.drawn = m.world.drawn := by
  unfold timerOp at h
  split at h
  · split at h
    · cases h; rfl
    · split at h
      · split at h
        · cases h
        · cases h; rfl
      · cases h
  · exact named_up (fun k t => retime_up _ _ _ _ _) h
  · split at h
    · rename_i e; exact (named_up (fun k t => retime_up _ _ _ _ _) h).trans (opened_up e)
    · cases h
  · cases h; rfl
theorem runM_up (p : Program) (m : Machine) (i : Nat) (listen : Bool) : SUp m.world.drawn (Go.runT p m i listen).1 := by
  unfold Go.runT
  dsimp only
  have h := stepG_up p (i == 0) (m.gs.swapAt! i { (default : Goroutine) with status := .finished }).1 m.world listen
  generalize stepG p (i == 0) (m.gs.swapAt! i { (default : Goroutine) with status := .finished }).1 m.world listen = s at h ⊢
  cases s with
  | ended o w es => exact trivial
  | comm g cases_ b sh w es => exact sup_le h (communicate_up _ _ _ _ _ _ _ _ _)
  | go g w es => exact h
  | spawn g c w es => exact h
  | count g w es => dsimp only; split <;> first | exact trivial | exact h
  | alone g on w es => exact h
  | collect g w es => exact sup_le h (look_up _ _ _ _)
  | watch g w es => exact h
  | newcoro g c d w es => exact h
  | coroswitch g c exit w es =>
    dsimp only
    split
    · exact h
    · split
      · rename_i e; unfold endThrow dieOf at e; injection e with _ e2 _; show _ ≤ _; rw [← e2]; exact h
      · exact trivial
    · exact trivial
  | timer g op w es =>
    dsimp only
    split
    · rename_i e; have := timerOp_up e; show _ ≤ _; exact Nat.le_trans h (Nat.le_of_eq this.symm)
    · split
      · rename_i e; unfold endThrow dieOf at e; injection e with _ e2 _; show _ ≤ _; rw [← e2]; exact h
      · exact trivial
    · exact trivial
    · exact trivial
def MUp (n : Nat) : Move → Prop
  | .goroutine m _ => n ≤ m.world.drawn
  | .machine s _ => SUp n s
theorem mup_le {n m : Nat} {s : Move} (h : n ≤ m) (k : MUp m s) : MUp n s := by
  cases s with
  | goroutine m _ => exact Nat.le_trans h k
  | machine s _ => exact sup_le h k
theorem askOn_up (p : Program) (m : Machine) : MUp m.world.drawn (askOn p m) := by
  unfold askOn
  dsimp only
  have pick : ∀ (m1 : Machine) (rs : List Nat), m.world.drawn ≤ m1.world.drawn → MUp m.world.drawn (match (choose (.sched rs.length)).run p m1.world with
      | .halt _ w => .machine (.ended (.stuck "sched" "") w)
      | .ok k world =>
        if rs.length ≤ 1 then .goroutine { m1 with world } (rs.getD k 0) else
        match (choose (.extern "sched.slice" 65536)).run p world with
        | .halt _ w => .machine (.ended (.stuck "sched.slice" "") w)
        | .ok n world => .goroutine { m1 with world, rest := { m1.rest with slice := if n = 0 then none else some (rs.getD k 0, n) } } (rs.getD k 0) : Move) := by
    intro m1 rs h1
    split
    · exact trivial
    · rename_i e
      have h2 := Nat.le_trans h1 (run_ok e)
      split
      · exact h2
      · split
        · exact trivial
        · rename_i e3; have h3 := run_ok e3; exact Nat.le_trans h2 h3
  split
  · exact trivial
  · rename_i e
    have h := run_ok e
    split
    · exact sup_le h (serve_up p _ _)
    · split
      · split
        · exact h
        · split
          · exact h
          · split
            · exact trivial
            · exact trivial
      · split
        · exact pick { m with world := _ } _ h
        · split
          · exact trivial
          · rename_i e3; have h3 := run_ok e3; exact pick { m with world := _ } _ (Nat.le_trans h h3)
          · rename_i e3; have h3 := run_ok e3; exact Nat.le_trans h h3
          · rename_i e3; have h3 := run_ok e3; exact pick (Machine.advanceTo { m with world := _ } _) _ (Nat.le_trans h h3)
theorem askM_up (p : Program) (m : Machine) : MUp m.world.drawn (Go.ask p m) := by
  unfold Go.ask
  split
  · split
    · exact trivial
    · rename_i w1 e
      have h := run_ok e
      have k := look_up p m.gs m.rest w1
      split
      · rename_i e2; rw [e2] at k; exact mup_le (Nat.le_trans h k) (askOn_up p _)
      · exact sup_le h k
    · rename_i e; exact mup_le (run_ok e) (askOn_up p _)
  · exact askOn_up p m
theorem move_up (p : Program) (m : Machine) : MUp m.world.drawn (move p m) := by
  unfold move
  split
  · split
    · exact Nat.le_refl _
    · exact trivial
  · split
    · split
      · exact Nat.le_refl _
      · exact askM_up p _
    · exact askM_up p m
theorem step_up (p : Program) (m : Machine) : SUp m.world.drawn (step p m) := by
  unfold step stepT
  have h := move_up p m
  split
  · rename_i e; rw [e] at h; exact sup_le h (runM_up p _ _ _)
  · rename_i e; rw [e] at h; exact h
theorem runN_up (p : Program) : ∀ (n : Nat) (m m' : Machine), runN p n m = .next m' → m.world.drawn ≤ m'.world.drawn
  | 0, m, m', h => by rw [runN] at h; cases h; exact Nat.le_refl _
  | n + 1, m, m', h => by
    rw [runN] at h
    have k := step_up p m
    split at h
    · rename_i e; rw [e] at k; exact Nat.le_trans k (runN_up p n _ _ h)
    · rename_i e; exact absurd h (e _)
theorem calls_drawn {P : Program} {f : FuncId} {args : Array Value} {w : World} {R : Ending → World → Prop} (h : Calls P f args w R) : Calls P f args w fun e w' => R e w' ∧ ∀ v, e = .returned v → w.drawn ≤ w'.drawn := by
  intro cs
  obtain ⟨e, w', fr, hR, hC, hf, hl⟩ := h cs
  refine ⟨e, w', fr, ⟨hR, ?_⟩, hC, hf, hl⟩
  rintro v rfl
  obtain ⟨n, hn⟩ := (hC : Steps P _ _)
  exact runN_up P n _ _ hn
end Go.Proofs.YtoidompkofomjaaGreatDoor.U

end
