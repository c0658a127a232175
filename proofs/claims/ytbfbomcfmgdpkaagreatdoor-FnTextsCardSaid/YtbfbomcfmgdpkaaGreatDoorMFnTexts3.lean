/- A part of the proof that the law FnTexts answers true at every input that its row speaks of. Conditions: the row's own. -/
import Derived.Test.YtbfbomcfmgdpkaaGreatDoorOpZ
import Derived.Test.YtbfbomcfmgdpkaaGreatDoorKFnTexts0
import Derived.Test.YtbfbomcfmgdpkaaGreatDoorMFnTexts2
section
namespace Go.Proofs.YtbfbomcfmgdpkaaGreatDoor.G
open Go.RowKit Go.Proofs.YtbfbomcfmgdpkaaGreatDoorW.PrintWords Go.Proofs.YtbfbomcfmgdpkaaGreatDoorW.PrintLast Go.Proofs.YtbfbomcfmgdpkaaGreatDoorW.PrintMore
attribute [local go_sem] max2_int min2_int max_two min_two max_three min_three max_four min_four
attribute [local go_sem high] Go.Proofs.YtbfbomcfmgdpkaaGreatDoor.G.str_gtr Go.Proofs.YtbfbomcfmgdpkaaGreatDoor.G.str_leq Go.Proofs.YtbfbomcfmgdpkaaGreatDoor.G.str_geq
set_option linter.unusedVariables false
set_option linter.unusedSimpArgs false
set_option maxHeartbeats 8000000 in
set_option maxRecDepth 100000 in
theorem spec_l01Text.calls (k : Nat) (g : Nat) (s0_0 : List Int) (s0_1 : Int) (s0_2 : Int) (a1 : Int) (r1 : ByteArray) (r2 : Int) (r3 : Int) (w0 w : World) (hI : IsS85 w0 w g s0_0 s0_1 s0_2) (hB : Below w0.heap.size w0 w) (h : spec_l01Text.f k s0_0 s0_1 s0_2 a1 = some (r1, r2, r3)) :
  Calls Tryz.prog 119 #[.pointer (some ⟨g, 0, none⟩), .int .i64 a1] w fun e w' => e = .returned (.string r1) ∧ IsS85 w0 w' g s0_0 r2 r3 ∧ Below w0.heap.size w0 w' ∧ KeepBut w w' g none := by
 have HI0 := Aside0.mk hI
 have HK := Aside0.mk (KeepBut.refl w g none)
 have HL := Aside0.mk hB.size
 clear hI
 have HW0 := Aside0.mk hB.size
 have HB := Aside0.mk hB
 clear hB
 have H : (spec_l01Text.l0 k a1 (([] : List Int)) s0_0 s0_1 s0_2) = some (r1, r2, r3) := h
 clear h
 obtain ⟨y124, hy124⟩ : ∃ y_ : List Int, y_ = (([] : List Int)) := ⟨_, rfl⟩
 replace H : (spec_l01Text.l0 k a1 y124 s0_0 s0_1 s0_2) = some (r1, r2, r3) := by first | (rw [hy124]; with_reducible exact H) | (have H2_ := (Option.bind_some _ _).symm.trans H; rw [hy124]; with_reducible exact H2_) | (have H2_ := (Option.bind_some _ _).symm.trans H; with_reducible exact H2_) | with_reducible exact H | (rw [hy124]; exact H) | exact H
 have Ny124 := Aside0.mk hy124
 clear hy124
 have H' := Aside0.mk H
 clear H
 go_enter Tryz.func119, Tryz.ntmps119
 go_wp2_with (first | ((with_reducible refine gate_dst (N := 12) rfl ?_); (try (refine gate_guard (by rfl) ?_; dsimp only)); refine Kd.R_lit (Kd.int .u8) _ 5 ?hg (N := 12) ?hd (xs := ([] : List Int)) (inner := []) (ok := fun _ => True) (okp := fun _ => True) ?hr ?hp (fun _ hk => hk) trivial (Below.refl _ _) (Nat.le_refl _) zb26 ?_; (case hd => rfl); (case hg => rfl); (case hr => exact zb15); (case hp => exact (Reps.none _ _)); intro v125 w3 ho4 hb hg_ hnew_; clear hg_ hnew_; (first | rw [← Ny124.out] at ho4 | (simp only [Int.reduceToNat] at ho4; rw [← Ny124.out] at ho4)); have HO126 := Aside0.mk (Kd.R_lower ho4 (keep_size (w := w) (g := g) (row := none) zb4)); replace HK := Aside0.mk (KeepBut.trans zb4 (KeepBut.of_below hb g none) (.inl rfl)); replace HB := Aside0.mk (below_step zb3 hb); replace HI0 := Aside0.mk (IsS85.below zb1 hb); clear hb ho4))
 go_loopg [5] k (fun kq v5 w' => ∃ (x5_1 : List Int) (x1001_1 : Int) (x1002_1 : Int), Aside0 (spec_l01Text.l0 kq a1 x5_1 s0_0 x1001_1 x1002_1 = some (r1, r2, r3)) ∧ Aside0 (kq ≤ k) ∧ Aside0 (Kd.R (Kd.int .u8) 5 w' w.heap.size (fun _ => True) v5 x5_1) ∧ Aside0 (IsS85 w0 w' g s0_0 x1001_1 x1002_1) ∧ Aside0 (KeepBut w w' g none) ∧ Aside0 (Below w0.heap.size w0 w'))
 case atStart => exact ⟨(y124), (s0_1), (s0_2), H', ⟨Nat.le_refl _⟩, ⟨(zR HO126.out)⟩, ⟨zb1⟩, ⟨zb4⟩, ⟨zb3⟩⟩
 case round =>
  clear H'
  try clear c1
  try clear p2
  obtain ⟨x5_1, x1001_1, x1002_1, HA, HK1, HO_5, HI0, HK, HB⟩ := hrel
  cases gk with
  | zero => exact absurd HA.out (by simp [spec_l01Text.l0])
  | succ k1 =>
   have H := HA.out
   clear HA
   simp only [spec_l01Text.l0] at H
   by_cases c5 : (x5_1.length : Int) < a1
   ·rw [if_pos c5] at H
    have c5b0 : decide ((x5_1.length : Int) < a1) = true := decide_eq_true c5
    clear c5
    replace H := Option.bind_eq_some_iff.mp H
    obtain ⟨⟨t131, t132, t133⟩, A60, H⟩ := H
    try dsimp only at H
    have A6 := Aside0.mk A60
    clear A60
    by_cases c7 : t131 = 0
    ·rw [if_pos c7] at H
     have c7b0 : (t131 == 0) = true := beq_iff_eq.mpr c7
     have c7b1 : (t131 != 0) = false := bne_eq_false_iff_eq.mpr c7
     clear c7
     replace H := Option.bind_eq_some_iff.mp H
     obtain ⟨⟨t134, t135, t136⟩, A80, H⟩ := H
     try dsimp only at H
     have A8 := Aside0.mk A80
     clear A80
     by_cases c9 : x5_1.length < 140737488355328
     ·rw [if_pos c9] at H
      have LMc9 := Aside0.mk c9
      clear c9
      obtain ⟨y137, hy137⟩ : ∃ y_ : List Int, y_ = (x5_1 ++ [(t134) % 256]) := ⟨_, rfl⟩
      replace H : (spec_l01Text.l0 k1 a1 y137 s0_0 t135 t136) = some (r1, r2, r3) := by first | (rw [hy137]; with_reducible exact H) | (have H2_ := (Option.bind_some _ _).symm.trans H; rw [hy137]; with_reducible exact H2_) | (have H2_ := (Option.bind_some _ _).symm.trans H; with_reducible exact H2_) | with_reducible exact H | (rw [hy137]; exact H) | exact H
      have Ny137 := Aside0.mk hy137
      clear hy137
      have H' := Aside0.mk H
      clear H
      obtain ⟨Ao10, co10, eo10⟩ := Kd.R_slice HO_5.out
      subst eo10
      go_wp2_with (first | ((with_reducible refine gate_callee (f := 79) rfl ?_); refine goesL_ (some 18) rfl rfl Tryz.func79 zb13 rfl #[.pointer (some ⟨g, 0, none⟩), .int .i64 5] rfl zb2 ?_; (with_reducible refine (spec_l01Below.calls g s0_0 x1001_1 x1002_1 5 t131 t132 t133 w0 _ ?side1 ?side2 A6.out).mono ?_); (case side1 => exact zb1); (case side2 => exact zb3); rintro e w11 ⟨rfl, hi, hb, hk⟩; refine ⟨_, rfl, ?_⟩; replace HO_5 := Aside0.mk (Kd.R_mono (Kd.R_keep (IsS85.apart (show IsS85 w0 _ g s0_0 x1001_1 x1002_1 from zb1) (zR HO_5.out) zb33) hk (fun _ h => h.2)) (fun _ h => h.1)); replace HK := Aside0.mk (KeepBut.trans zb4 hk (.inl rfl)); replace HB := Aside0.mk hb; replace HI0 := Aside0.mk hi; (try clear hb)) | ((with_reducible refine gate_callee (f := 122) rfl ?_); refine goesL_ (some 30) rfl rfl Tryz.func122 zb13 rfl #[.pointer (some ⟨g, 0, none⟩)] rfl zb2 ?_; (with_reducible refine (spec_l01Byte.calls g s0_0 t132 t133 t134 t135 t136 w0 _ ?side1 ?side2 A8.out).mono ?_); (case side1 => exact zb1); (case side2 => exact zb3); rintro e w12 ⟨rfl, hi, hb, hk⟩; refine ⟨_, rfl, ?_⟩; replace HO_5 := Aside0.mk (Kd.R_mono (Kd.R_keep (IsS85.apart (show IsS85 w0 _ g s0_0 t132 t133 from zb1) (zR HO_5.out) zb33) hk (fun _ h => h.2)) (fun _ h => h.1)); replace HK := Aside0.mk (KeepBut.trans zb4 hk (.inl rfl)); replace HB := Aside0.mk hb; replace HI0 := Aside0.mk hi; (try clear hb)) | ((with_reducible refine gate_builtin (b := .append) (xs := #[.tmp 28, .tmp 32]) rfl ?_); (try (refine gate_guard (by rfl) ?_; dsimp only)); at_builtin; refine Kd.R_append (Kd.int .u8) w.heap.size rfl (.tmp 28) (.tmp 32) 22 5 (.int .u8 0) 1 rfl Tryz.underlying22 info5 rfl zb33 zb40 (.slice Ao10 x5_1.length co10) x5_1 ((t134) % 256) [.int .u8 ((t134) % 256)] (fun _ => True) (fun _ => False) rfl rfl ?aP (fun _ hk => hk.elim) ?aF ?aO (Below.refl _ _) ?aS ?aL ?_; (case aP => exact rfl); (case aF => exact (fun _ _ => trivial)); (case aO => exact (zR HO_5.out)); (case aS => exact (keep_size (w := w) (g := g) (row := none) zb4)); (case aL => have := LMc9.out; omega); intro v138 w13 ho hb hg hat; rw [← Ny137.out] at ho; replace HB := Aside0.mk (below_weaken zb3 HL.out hb); replace HI0 := Aside0.mk (IsS85.grown zb1 hg (IsS85.own_ne HI0.out HO_5.out zb33)); replace HK := Aside0.mk (KeepBut.trans zb4 (KeepBut.of_grown hg g) (Kd.R_base2 HO_5.out)); have HO139 := Aside0.mk ho; clear HO_5 ho hb hg hat))
      go_roundg k1
      case measure => have := HK1.out; omega
      case rel => exact ⟨(y137), (t135), (t136), H', ⟨by have := HK1.out; omega⟩, ⟨(zR HO139.out)⟩, ⟨zb1⟩, ⟨zb4⟩, ⟨zb3⟩⟩
     ·rw [if_neg c9] at H
      exact absurd H zb26
    ·rw [if_neg c7] at H
     have c7b0 : (t131 == 0) = false := beq_eq_false_iff_ne.mpr c7
     have c7b1 : (t131 != 0) = true := bne_iff_ne.mpr c7
     by_cases c14 : t131 = 1
     ·rw [if_pos c14] at H
      have c14b0 : (t131 == 1) = true := beq_iff_eq.mpr c14
      have c14b1 : (t131 != 1) = false := bne_eq_false_iff_eq.mpr c14
      clear c14
      replace H := Option.bind_eq_some_iff.mp H
      obtain ⟨⟨t140, t141, t142⟩, A150, H⟩ := H
      try dsimp only at H
      have A15 := Aside0.mk A150
      clear A150
      replace H := Option.bind_eq_some_iff.mp H
      obtain ⟨⟨t143, t144, t145⟩, A160, H⟩ := H
      try dsimp only at H
      have A16 := Aside0.mk A160
      clear A160
      have H' := Aside0.mk H
      clear H
      obtain ⟨Ao17, co17, eo17⟩ := Kd.R_slice HO_5.out
      subst eo17
      go_wp2_with (first | ((with_reducible refine gate_callee (f := 79) rfl ?_); refine goesL_ (some 18) rfl rfl Tryz.func79 zb13 rfl #[.pointer (some ⟨g, 0, none⟩), .int .i64 5] rfl zb2 ?_; (with_reducible refine (spec_l01Below.calls g s0_0 x1001_1 x1002_1 5 t131 t132 t133 w0 _ ?side1 ?side2 A6.out).mono ?_); (case side1 => exact zb1); (case side2 => exact zb3); rintro e w18 ⟨rfl, hi, hb, hk⟩; refine ⟨_, rfl, ?_⟩; replace HO_5 := Aside0.mk (Kd.R_mono (Kd.R_keep (IsS85.apart (show IsS85 w0 _ g s0_0 x1001_1 x1002_1 from zb1) (zR HO_5.out) zb33) hk (fun _ h => h.2)) (fun _ h => h.1)); replace HK := Aside0.mk (KeepBut.trans zb4 hk (.inl rfl)); replace HB := Aside0.mk hb; replace HI0 := Aside0.mk hi; (try clear hb)) | ((with_reducible refine gate_callee (f := 79) rfl ?_); refine goesL_ (some 37) rfl rfl Tryz.func79 zb13 rfl #[.pointer (some ⟨g, 0, none⟩), .int .i64 9] rfl zb2 ?_; (with_reducible refine (spec_l01Below.calls g s0_0 t132 t133 9 t140 t141 t142 w0 _ ?side1 ?side2 A15.out).mono ?_); (case side1 => exact zb1); (case side2 => exact zb3); rintro e w19 ⟨rfl, hi, hb, hk⟩; refine ⟨_, rfl, ?_⟩; replace HO_5 := Aside0.mk (Kd.R_mono (Kd.R_keep (IsS85.apart (show IsS85 w0 _ g s0_0 t132 t133 from zb1) (zR HO_5.out) zb33) hk (fun _ h => h.2)) (fun _ h => h.1)); replace HK := Aside0.mk (KeepBut.trans zb4 hk (.inl rfl)); replace HB := Aside0.mk hb; replace HI0 := Aside0.mk hi; (try clear hb)) | ((with_reducible refine gate_callee (f := 79) rfl ?_); refine goesL_ (some 39) rfl rfl Tryz.func79 zb13 rfl #[.pointer (some ⟨g, 0, none⟩), .int .i64 4] rfl zb2 ?_; (with_reducible refine (spec_l01Below.calls g s0_0 t141 t142 4 t143 t144 t145 w0 _ ?side1 ?side2 A16.out).mono ?_); (case side1 => exact zb1); (case side2 => exact zb3); rintro e w20 ⟨rfl, hi, hb, hk⟩; refine ⟨_, rfl, ?_⟩; replace HO_5 := Aside0.mk (Kd.R_mono (Kd.R_keep (IsS85.apart (show IsS85 w0 _ g s0_0 t141 t142 from zb1) (zR HO_5.out) zb33) hk (fun _ h => h.2)) (fun _ h => h.1)); replace HK := Aside0.mk (KeepBut.trans zb4 hk (.inl rfl)); replace HB := Aside0.mk hb; replace HI0 := Aside0.mk hi; (try clear hb)))
      go_loopg [5, 8] k1 (fun kq v5 v8 w' => ∃ (x5_2 : List Int) (x8_2 : Int), v8 = .int .i64 x8_2 ∧ Aside0 (spec_l01Text.l1 kq a1 x5_2 t140 ((wrap64 (97 + t143)) % 256) x8_2 s0_0 t144 t145 = some (r1, r2, r3)) ∧ Aside0 (kq ≤ k1) ∧ Aside0 (Kd.R (Kd.int .u8) 5 w' w.heap.size (fun _ => True) v5 x5_2) ∧ Aside0 (IsS85 w0 w' g s0_0 t144 t145) ∧ Aside0 (KeepBut w w' g none) ∧ Aside0 (Below w0.heap.size w0 w'))
      case atStart => exact ⟨(x5_1), (0), zb7, H', ⟨Nat.le_refl _⟩, ⟨(zR HO_5.out)⟩, ⟨zb1⟩, ⟨zb4⟩, ⟨zb3⟩⟩
      case round =>
       clear H'
       try clear c1
       try clear p2
       try clear c5
       try clear c5b0
       try clear p6
       try clear c7
       try clear c7b0
       try clear c7b1
       try clear c9
       try clear c11
       try clear c12
       try clear c14
       try clear c14b0
       try clear c14b1
       try clear p2
       obtain ⟨x5_2, x8_2, rfl, HA, HK2, HO_5, HI0, HK, HB⟩ := hrel
       cases gk with
       | zero => exact absurd HA.out (by simp [spec_l01Text.l1])
       | succ k2 =>
        have H := HA.out
        clear HA
        simp only [spec_l01Text.l1] at H
        by_cases c21 : x8_2 < t140
        ·rw [if_pos c21] at H
         have c21b0 : decide (x8_2 < t140) = true := decide_eq_true c21
         clear c21
         by_cases c22 : x5_2.length < 140737488355328
         ·rw [if_pos c22] at H
          have LMc22 := Aside0.mk c22
          clear c22
          obtain ⟨y146, hy146⟩ : ∃ y_ : List Int, y_ = (x5_2 ++ [((wrap64 (97 + t143)) % 256)]) := ⟨_, rfl⟩
          replace H : (spec_l01Text.l1 k2 a1 y146 t140 ((wrap64 (97 + t143)) % 256) (wrap64 (x8_2 + 1)) s0_0 t144 t145) = some (r1, r2, r3) := by first | (rw [hy146]; with_reducible exact H) | (have H2_ := (Option.bind_some _ _).symm.trans H; rw [hy146]; with_reducible exact H2_) | (have H2_ := (Option.bind_some _ _).symm.trans H; with_reducible exact H2_) | with_reducible exact H | (rw [hy146]; exact H) | exact H
          have Ny146 := Aside0.mk hy146
          clear hy146
          have H' := Aside0.mk H
          clear H
          go_wp2_with (first | ((with_reducible refine gate_builtin (b := .append) (xs := #[.tmp 47, .tmp 49]) rfl ?_); (try (refine gate_guard (by rfl) ?_; dsimp only)); at_builtin; refine Kd.R_append (Kd.int .u8) w.heap.size rfl (.tmp 47) (.tmp 49) 22 5 (.int .u8 0) 1 rfl Tryz.underlying22 info5 rfl zb33 zb40 u5 x5_2 ((wrap64 (97 + t143)) % 256) [.int .u8 ((wrap64 (97 + t143)) % 256)] (fun _ => True) (fun _ => False) rfl rfl ?aP (fun _ hk => hk.elim) ?aF ?aO (Below.refl _ _) ?aS ?aL ?_; (case aP => exact rfl); (case aF => exact (fun _ _ => trivial)); (case aO => exact (zR HO_5.out)); (case aS => exact (keep_size (w := w) (g := g) (row := none) zb4)); (case aL => have := LMc22.out; omega); intro v147 w23 ho hb hg hat; rw [← Ny146.out] at ho; replace HB := Aside0.mk (below_weaken zb3 HL.out hb); replace HI0 := Aside0.mk (IsS85.grown zb1 hg (IsS85.own_ne HI0.out HO_5.out zb33)); replace HK := Aside0.mk (KeepBut.trans zb4 (KeepBut.of_grown hg g) (Kd.R_base2 HO_5.out)); have HO148 := Aside0.mk ho; clear HO_5 ho hb hg hat))
          go_roundg k2
          case measure => have := HK1.out; have := HK2.out; omega
          case rel => exact ⟨(y146), (wrap64 (x8_2 + 1)), zb7, H', ⟨by have := HK1.out; have := HK2.out; omega⟩, ⟨(zR HO148.out)⟩, ⟨zb1⟩, ⟨zb4⟩, ⟨zb3⟩⟩
         ·rw [if_neg c22] at H
          exact absurd H zb26
        ·rw [if_neg c21] at H
         have c21b0 : decide (x8_2 < t140) = false := decide_eq_false c21
         clear c21
         have H' := Aside0.mk H
         clear H
         go_wp2
         go_roundg k2
         case measure => have := HK1.out; have := HK2.out; omega
         case rel => exact ⟨(x5_2), (t144), (t145), H', ⟨by have := HK1.out; have := HK2.out; omega⟩, ⟨(zR HO_5.out)⟩, ⟨zb1⟩, ⟨zb4⟩, ⟨zb3⟩⟩
     ·rw [if_neg c14] at H
      have c14b0 : (t131 == 1) = false := beq_eq_false_iff_ne.mpr c14
      have c14b1 : (t131 != 1) = true := bne_iff_ne.mpr c14
      by_cases c24 : t131 = 2
      ·rw [if_pos c24] at H
       have c24b0 : (t131 == 2) = true := beq_iff_eq.mpr c24
       have c24b1 : (t131 != 2) = false := bne_eq_false_iff_eq.mpr c24
       clear c24
       by_cases c25 : (x5_1.length : Int) > 0
       ·rw [if_pos c25] at H
        have c25b0 : decide (0 < (x5_1.length : Int)) = true := decide_eq_true c25
        have c25b1 : decide (0 < x5_1.length) = true := decide_eq_true zb40
        clear c25
        replace H := Option.bind_eq_some_iff.mp H
        obtain ⟨⟨t149, t150, t151⟩, A260, H⟩ := H
        try dsimp only at H
        have A26 := Aside0.mk A260
        clear A260
        replace H := Option.bind_eq_some_iff.mp H
        obtain ⟨⟨t152, t153, t154⟩, A270, H⟩ := H
        try dsimp only at H
        have A27 := Aside0.mk A270
        clear A270
        have H' := Aside0.mk H
        clear H
        obtain ⟨Ao28, co28, eo28⟩ := Kd.R_slice HO_5.out
        subst eo28
        go_wp2_with (first | ((with_reducible refine gate_callee (f := 79) rfl ?_); refine goesL_ (some 18) rfl rfl Tryz.func79 zb13 rfl #[.pointer (some ⟨g, 0, none⟩), .int .i64 5] rfl zb2 ?_; (with_reducible refine (spec_l01Below.calls g s0_0 x1001_1 x1002_1 5 t131 t132 t133 w0 _ ?side1 ?side2 A6.out).mono ?_); (case side1 => exact zb1); (case side2 => exact zb3); rintro e w29 ⟨rfl, hi, hb, hk⟩; refine ⟨_, rfl, ?_⟩; replace HO_5 := Aside0.mk (Kd.R_mono (Kd.R_keep (IsS85.apart (show IsS85 w0 _ g s0_0 x1001_1 x1002_1 from zb1) (zR HO_5.out) zb33) hk (fun _ h => h.2)) (fun _ h => h.1)); replace HK := Aside0.mk (KeepBut.trans zb4 hk (.inl rfl)); replace HB := Aside0.mk hb; replace HI0 := Aside0.mk hi; (try clear hb)) | ((with_reducible refine gate_callee (f := 79) rfl ?_); refine goesL_ (some 59) rfl rfl Tryz.func79 zb13 rfl #[.pointer (some ⟨g, 0, none⟩), .int .i64 (x5_1.length : Int)] rfl zb2 ?_; (with_reducible refine (spec_l01Below.calls g s0_0 t132 t133 (x5_1.length : Int) t149 t150 t151 w0 _ ?side1 ?side2 A26.out).mono ?_); (case side1 => exact zb1); (case side2 => exact zb3); rintro e w30 ⟨rfl, hi, hb, hk⟩; refine ⟨_, rfl, ?_⟩; replace HO_5 := Aside0.mk (Kd.R_mono (Kd.R_keep (IsS85.apart (show IsS85 w0 _ g s0_0 t132 t133 from zb1) (zR HO_5.out) zb33) hk (fun _ h => h.2)) (fun _ h => h.1)); replace HK := Aside0.mk (KeepBut.trans zb4 hk (.inl rfl)); replace HB := Aside0.mk hb; replace HI0 := Aside0.mk hi; (try clear hb)) | ((with_reducible refine gate_callee (f := 79) rfl ?_); refine goesL_ (some 61) rfl rfl Tryz.func79 zb13 rfl #[.pointer (some ⟨g, 0, none⟩), .int .i64 20] rfl zb2 ?_; (with_reducible refine (spec_l01Below.calls g s0_0 t150 t151 20 t152 t153 t154 w0 _ ?side1 ?side2 A27.out).mono ?_); (case side1 => exact zb1); (case side2 => exact zb3); rintro e w31 ⟨rfl, hi, hb, hk⟩; refine ⟨_, rfl, ?_⟩; replace HO_5 := Aside0.mk (Kd.R_mono (Kd.R_keep (IsS85.apart (show IsS85 w0 _ g s0_0 t150 t151 from zb1) (zR HO_5.out) zb33) hk (fun _ h => h.2)) (fun _ h => h.1)); replace HK := Aside0.mk (KeepBut.trans zb4 hk (.inl rfl)); replace HB := Aside0.mk hb; replace HI0 := Aside0.mk hi; (try clear hb)))
        go_loopg [5, 11] k1 (fun kq v5 v11 w' => ∃ (x5_2 : List Int) (x11_2 : Int), v11 = .int .i64 x11_2 ∧ Aside0 (spec_l01Text.l2 kq a1 x5_2 t149 t152 x11_2 s0_0 t153 t154 = some (r1, r2, r3)) ∧ Aside0 (kq ≤ k1) ∧ Aside0 (Kd.R (Kd.int .u8) 5 w' w.heap.size (fun _ => True) v5 x5_2) ∧ Aside0 (IsS85 w0 w' g s0_0 t153 t154) ∧ Aside0 (KeepBut w w' g none) ∧ Aside0 (Below w0.heap.size w0 w'))
        case atStart => exact ⟨(x5_1), (0), zb7, H', ⟨Nat.le_refl _⟩, ⟨(zR HO_5.out)⟩, ⟨zb1⟩, ⟨zb4⟩, ⟨zb3⟩⟩
        case round =>
         clear H'
         try clear c1
         try clear c2
         try clear p2
         try clear c5
         try clear c5b0
         try clear p6
         try clear c7
         try clear c7b0
         try clear c7b1
         try clear c9
         try clear c11
         try clear c12
         try clear c14
         try clear c14b0
         try clear c14b1
         try clear c21
         try clear c21b0
         try clear c22
         try clear c24
         try clear c24b0
         try clear c24b1
         try clear c25
         try clear c25b0
         try clear c25b1
         try clear p2
         try clear p6
         obtain ⟨x5_2, x11_2, rfl, HA, HK2, HO_5, HI0, HK, HB⟩ := hrel
         cases gk with
         | zero => exact absurd HA.out (by simp [spec_l01Text.l2])
         | succ k2 =>
          have H := HA.out
          clear HA
          simp only [spec_l01Text.l2] at H
          by_cases c32 : x11_2 < t152
          ·rw [if_pos c32] at H
           have c32b0 : decide (x11_2 < t152) = true := decide_eq_true c32
           clear c32
           by_cases c33 : (wrap64 (t149 + x11_2)) < (x5_2.length : Int)
           ·rw [if_pos c33] at H
            have c33b0 : decide ((wrap64 (t149 + x11_2)) < (x5_2.length : Int)) = true := decide_eq_true c33
            clear c33
            obtain ⟨ji34, hji34⟩ : ∃ j_ : Int, (wrap64 (t149 + x11_2)) = j_ := ⟨_, rfl⟩
            replace H : (if 0 ≤ (ji34) then (if x5_2.length < 140737488355328 then (spec_l01Text.l2 k2 a1 (x5_2 ++ [rd x5_2 (ji34)]) t149 t152 (wrap64 (x11_2 + 1)) s0_0 t153 t154) else (none)) else (none)) = some (r1, r2, r3) := by first | (rw [hji34] at H; exact H) | (simp only [hji34] at H ⊢; exact H)
            (try rw [hji34] at c33b0)
            have hji34w : (IntKind.i64.wrap (t149 + x11_2)) = ji34 := (i64_w _).trans hji34
            by_cases c35 : 0 ≤ (ji34)
            ·rw [if_pos c35] at H
             have c35b0 : decide (0 ≤ (ji34)) = true := decide_eq_true c35
             clear c35
             by_cases c36 : x5_2.length < 140737488355328
             ·rw [if_pos c36] at H
              have LMc36 := Aside0.mk c36
              clear c36
              obtain ⟨y156, hy156⟩ : ∃ y_ : List Int, y_ = (x5_2 ++ [rd x5_2 (ji34)]) := ⟨_, rfl⟩
              replace H : (spec_l01Text.l2 k2 a1 y156 t149 t152 (wrap64 (x11_2 + 1)) s0_0 t153 t154) = some (r1, r2, r3) := by first | (rw [hy156]; with_reducible exact H) | (have H2_ := (Option.bind_some _ _).symm.trans H; rw [hy156]; with_reducible exact H2_) | (have H2_ := (Option.bind_some _ _).symm.trans H; with_reducible exact H2_) | with_reducible exact H | (rw [hy156]; exact H) | exact H
              have Ny156 := Aside0.mk hy156
              clear hy156
              have H' := Aside0.mk H
              clear H
              obtain ⟨Ao37, co37, eo37⟩ := Kd.R_slice HO_5.out
              subst eo37
              have p155 : 0 ≤ ((ji34) : Int) := of_decide_eq_true zb5
              have q155 : (ji34) < (x5_2.length : Int) := of_decide_eq_true zb5
              obtain ⟨ad155, e155, hx155_0⟩ := Kd.at_int (Kd.R_reads' HO_5.out).2.2 (ji34) p155 q155
              cases e155
              replace p155 := eq_true p155
              replace q155 := eq_true q155
              go_wp2_with (first | ((with_reducible refine gate_builtin (b := .append) (xs := #[.tmp 75, .tmp 82]) rfl ?_); (try (refine gate_guard (by rfl) ?_; dsimp only)); at_builtin; refine Kd.R_append (Kd.int .u8) w.heap.size rfl (.tmp 75) (.tmp 82) 22 5 (.int .u8 0) 1 rfl Tryz.underlying22 info5 rfl zb33 zb40 (.slice (some ad155) x5_2.length co37) x5_2 (rd x5_2 (ji34)) [.int .u8 (rd x5_2 (ji34))] (fun _ => True) (fun _ => False) rfl rfl ?aP (fun _ hk => hk.elim) ?aF ?aO (Below.refl _ _) ?aS ?aL ?_; (case aP => exact rfl); (case aF => exact (fun _ _ => trivial)); (case aO => exact (zR HO_5.out)); (case aS => exact (keep_size (w := w) (g := g) (row := none) zb4)); (case aL => have := LMc36.out; omega); intro v157 w38 ho hb hg hat; rw [← Ny156.out] at ho; replace HB := Aside0.mk (below_weaken zb3 HL.out hb); replace HI0 := Aside0.mk (IsS85.grown zb1 hg (IsS85.own_ne HI0.out HO_5.out zb33)); replace HK := Aside0.mk (KeepBut.trans zb4 (KeepBut.of_grown hg g) (Kd.R_base2 HO_5.out)); have HO158 := Aside0.mk ho; clear HO_5 ho hb hg hat))
              go_roundg k2
              case measure => have := HK1.out; have := HK2.out; omega
              case rel => exact ⟨(y156), (wrap64 (x11_2 + 1)), zb7, H', ⟨by have := HK1.out; have := HK2.out; omega⟩, ⟨(zR HO158.out)⟩, ⟨zb1⟩, ⟨zb4⟩, ⟨zb3⟩⟩
             ·rw [if_neg c36] at H
              exact absurd H zb26
            ·rw [if_neg c35] at H
             exact absurd H zb26
           ·rw [if_neg c33] at H
            have c33b0 : decide ((wrap64 (t149 + x11_2)) < (x5_2.length : Int)) = false := decide_eq_false c33
            clear c33
            have H' := Aside0.mk H
            clear H
            obtain ⟨Ao39, co39, eo39⟩ := Kd.R_slice HO_5.out
            subst eo39
            go_wp2
            go_roundg k2
            case measure => have := HK1.out; have := HK2.out; omega
            case rel => exact ⟨(x5_2), (t153), (t154), H', ⟨by have := HK1.out; have := HK2.out; omega⟩, ⟨(zR HO_5.out)⟩, ⟨zb1⟩, ⟨zb4⟩, ⟨zb3⟩⟩
          ·rw [if_neg c32] at H
           have c32b0 : decide (x11_2 < t152) = false := decide_eq_false c32
           clear c32
           have H' := Aside0.mk H
           clear H
           go_wp2
           go_roundg k2
           case measure => have := HK1.out; have := HK2.out; omega
           case rel => exact ⟨(x5_2), (t153), (t154), H', ⟨by have := HK1.out; have := HK2.out; omega⟩, ⟨(zR HO_5.out)⟩, ⟨zb1⟩, ⟨zb4⟩, ⟨zb3⟩⟩
       ·rw [if_neg c25] at H
        have c25b0 : decide (0 < (x5_1.length : Int)) = false := decide_eq_false c25
        have c25b1 : decide (0 < x5_1.length) = false := decide_eq_false zb40
        clear c25
        have H' := Aside0.mk H
        clear H
        obtain ⟨Ao40, co40, eo40⟩ := Kd.R_slice HO_5.out
        subst eo40
        go_wp2_with (first | ((with_reducible refine gate_callee (f := 79) rfl ?_); refine goesL_ (some 18) rfl rfl Tryz.func79 zb13 rfl #[.pointer (some ⟨g, 0, none⟩), .int .i64 5] rfl zb2 ?_; (with_reducible refine (spec_l01Below.calls g s0_0 x1001_1 x1002_1 5 t131 t132 t133 w0 _ ?side1 ?side2 A6.out).mono ?_); (case side1 => exact zb1); (case side2 => exact zb3); rintro e w41 ⟨rfl, hi, hb, hk⟩; refine ⟨_, rfl, ?_⟩; replace HO_5 := Aside0.mk (Kd.R_mono (Kd.R_keep (IsS85.apart (show IsS85 w0 _ g s0_0 x1001_1 x1002_1 from zb1) (zR HO_5.out) zb33) hk (fun _ h => h.2)) (fun _ h => h.1)); replace HK := Aside0.mk (KeepBut.trans zb4 hk (.inl rfl)); replace HB := Aside0.mk hb; replace HI0 := Aside0.mk hi; (try clear hb)))
        go_roundg k1
        case measure => have := HK1.out; omega
        case rel => exact ⟨(x5_1), (t132), (t133), H', ⟨by have := HK1.out; omega⟩, ⟨(zR HO_5.out)⟩, ⟨zb1⟩, ⟨zb4⟩, ⟨zb3⟩⟩
      ·rw [if_neg c24] at H
       have c24b0 : (t131 == 2) = false := beq_eq_false_iff_ne.mpr c24
       have c24b1 : (t131 != 2) = true := bne_iff_ne.mpr c24
       replace H := Option.bind_eq_some_iff.mp H
       obtain ⟨⟨t159, t160, t161⟩, A420, H⟩ := H
       try dsimp only at H
       have A42 := Aside0.mk A420
       clear A420
       by_cases c43 : x5_1.length < 140737488355328
       ·rw [if_pos c43] at H
        have LMc43 := Aside0.mk c43
        clear c43
        obtain ⟨y162, hy162⟩ : ∃ y_ : List Int, y_ = (x5_1 ++ [(wrap64 (97 + t159)) % 256]) := ⟨_, rfl⟩
        replace H : (spec_l01Text.l0 k1 a1 y162 s0_0 t160 t161) = some (r1, r2, r3) := by first | (rw [hy162]; with_reducible exact H) | (have H2_ := (Option.bind_some _ _).symm.trans H; rw [hy162]; with_reducible exact H2_) | (have H2_ := (Option.bind_some _ _).symm.trans H; with_reducible exact H2_) | with_reducible exact H | (rw [hy162]; exact H) | exact H
        have Ny162 := Aside0.mk hy162
        clear hy162
        have H' := Aside0.mk H
        clear H
        obtain ⟨Ao44, co44, eo44⟩ := Kd.R_slice HO_5.out
        subst eo44
        go_wp2_with (first | ((with_reducible refine gate_callee (f := 79) rfl ?_); refine goesL_ (some 18) rfl rfl Tryz.func79 zb13 rfl #[.pointer (some ⟨g, 0, none⟩), .int .i64 5] rfl zb2 ?_; (with_reducible refine (spec_l01Below.calls g s0_0 x1001_1 x1002_1 5 t131 t132 t133 w0 _ ?side1 ?side2 A6.out).mono ?_); (case side1 => exact zb1); (case side2 => exact zb3); rintro e w45 ⟨rfl, hi, hb, hk⟩; refine ⟨_, rfl, ?_⟩; replace HO_5 := Aside0.mk (Kd.R_mono (Kd.R_keep (IsS85.apart (show IsS85 w0 _ g s0_0 x1001_1 x1002_1 from zb1) (zR HO_5.out) zb33) hk (fun _ h => h.2)) (fun _ h => h.1)); replace HK := Aside0.mk (KeepBut.trans zb4 hk (.inl rfl)); replace HB := Aside0.mk hb; replace HI0 := Aside0.mk hi; (try clear hb)) | ((with_reducible refine gate_callee (f := 79) rfl ?_); refine goesL_ (some 21) rfl rfl Tryz.func79 zb13 rfl #[.pointer (some ⟨g, 0, none⟩), .int .i64 26] rfl zb2 ?_; (with_reducible refine (spec_l01Below.calls g s0_0 t132 t133 26 t159 t160 t161 w0 _ ?side1 ?side2 A42.out).mono ?_); (case side1 => exact zb1); (case side2 => exact zb3); rintro e w46 ⟨rfl, hi, hb, hk⟩; refine ⟨_, rfl, ?_⟩; replace HO_5 := Aside0.mk (Kd.R_mono (Kd.R_keep (IsS85.apart (show IsS85 w0 _ g s0_0 t132 t133 from zb1) (zR HO_5.out) zb33) hk (fun _ h => h.2)) (fun _ h => h.1)); replace HK := Aside0.mk (KeepBut.trans zb4 hk (.inl rfl)); replace HB := Aside0.mk hb; replace HI0 := Aside0.mk hi; (try clear hb)) | ((with_reducible refine gate_builtin (b := .append) (xs := #[.tmp 19, .tmp 24]) rfl ?_); (try (refine gate_guard (by rfl) ?_; dsimp only)); at_builtin; refine Kd.R_append (Kd.int .u8) w.heap.size rfl (.tmp 19) (.tmp 24) 22 5 (.int .u8 0) 1 rfl Tryz.underlying22 info5 rfl zb33 zb40 (.slice Ao44 x5_1.length co44) x5_1 ((wrap64 (97 + t159)) % 256) [.int .u8 ((wrap64 (97 + t159)) % 256)] (fun _ => True) (fun _ => False) rfl rfl ?aP (fun _ hk => hk.elim) ?aF ?aO (Below.refl _ _) ?aS ?aL ?_; (case aP => exact rfl); (case aF => exact (fun _ _ => trivial)); (case aO => exact (zR HO_5.out)); (case aS => exact (keep_size (w := w) (g := g) (row := none) zb4)); (case aL => have := LMc43.out; omega); intro v163 w47 ho hb hg hat; rw [← Ny162.out] at ho; replace HB := Aside0.mk (below_weaken zb3 HL.out hb); replace HI0 := Aside0.mk (IsS85.grown zb1 hg (IsS85.own_ne HI0.out HO_5.out zb33)); replace HK := Aside0.mk (KeepBut.trans zb4 (KeepBut.of_grown hg g) (Kd.R_base2 HO_5.out)); have HO164 := Aside0.mk ho; clear HO_5 ho hb hg hat))
        go_roundg k1
        case measure => have := HK1.out; omega
        case rel => exact ⟨(y162), (t160), (t161), H', ⟨by have := HK1.out; omega⟩, ⟨(zR HO164.out)⟩, ⟨zb1⟩, ⟨zb4⟩, ⟨zb3⟩⟩
       ·rw [if_neg c43] at H
        exact absurd H zb26
   ·rw [if_neg c5] at H
    have c5b0 : decide ((x5_1.length : Int) < a1) = false := decide_eq_false c5
    clear c5
    by_cases c48 : 0 ≤ a1
    ·rw [if_pos c48] at H
     have c48b0 := eq_true c48
     have c48b1 : decide (0 ≤ a1) = true := decide_eq_true c48
     clear c48
     by_cases c49 : a1 ≤ (x5_1.length : Int)
     ·rw [if_pos c49] at H
      have c49b0 := eq_true c49
      have c49b1 : decide (a1 ≤ (x5_1.length : Int)) = true := decide_eq_true c49
      clear c49
      obtain ⟨y127, hy127⟩ : ∃ y_ : List Int, y_ = (x5_1.take (a1 : Int).toNat) := ⟨_, rfl⟩
      replace H : (some (strOfNums y127, x1001_1, x1002_1)) = some (r1, r2, r3) := by first | (rw [hy127]; with_reducible exact H) | (have H2_ := (Option.bind_some _ _).symm.trans H; rw [hy127]; with_reducible exact H2_) | (have H2_ := (Option.bind_some _ _).symm.trans H; with_reducible exact H2_) | with_reducible exact H | (rw [hy127]; exact H) | exact H
      have Ny127 := Aside0.mk hy127
      clear hy127
      simp only [Option.some.injEq, Prod.mk.injEq] at H
      obtain ⟨rfl, rfl, rfl⟩ := H
      obtain ⟨Ao50, co50, eo50⟩ := Kd.R_slice HO_5.out
      subst eo50
      have q51 : (a1 : Int) ≤ ((x5_1.length : Int) : Int) := of_decide_eq_true zb5
      obtain ⟨i051, hi051, _, hsz51, _⟩ := info_parts info5
      have hroom51 : x5_1.length ≤ co50 := (Kd.R_reads' HO_5.out).2.1
      have hC51 : Kd.C (Kd.int .u8) _ Ao50 x5_1.length x5_1 := (Kd.R_reads' HO_5.out).2.2
      have hcut51 := cut_to (P := Tryz.prog) 22 5 .i64 Tryz.underlying22 hi051 Ao50 x5_1.length co50 a1 (of_decide_eq_true zb5) q51 hroom51
      have hr51 := Kd.C_take (m := (a1 : Int).toNat) hC51 zb40
      have hy51 : y127.length = (a1 : Int).toNat := (by rw [Ny127.out, List.length_take]; omega)
      rw [← Ny127.out] at hr51
      rw [← hy51] at hcut51
      have HR130 := Aside0.mk hr51
      have HC130 := Aside0.mk (show y127.length ≤ co50 from zb40)
      clear hr51 hC51 hroom51 hi051 hsz51
      have KY51 := Aside0.mk hy51
      clear hy51
      have KL51 := Aside0.mk (show (a1 : Int).toNat ≤ x5_1.length from zb40)
      replace q51 := eq_true q51
      have hcv52 := Kd.C_string (P := Tryz.prog) (A := Ao50) (c := co50) Tryz.underlying22 Tryz.underlying5 Tryz.underlying9 (by repeat (first | (with_reducible exact HR130.out) | (with_reducible refine Kd.C_alloc ?_ _) | (with_reducible refine Kd.C_drewN ?_ _) | (with_reducible refine Kd.C_drew ?_) | exact HR130.out))
      go_wp2
      go_ret
      exact ⟨zb8, zb1, zb3, zb4⟩
     ·rw [if_neg c49] at H
      exact absurd H zb26
    ·rw [if_neg c48] at H
     exact absurd H zb26
set_option maxHeartbeats 8000000 in
set_option maxRecDepth 100000 in
theorem spec_l01Raw.calls (k : Nat) (g : Nat) (s0_0 : List Int) (s0_1 : Int) (s0_2 : Int) (r1 : ByteArray) (r2 : Int) (r3 : Int) (w0 w : World) (hI : IsS85 w0 w g s0_0 s0_1 s0_2) (hB : Below w0.heap.size w0 w) (h : spec_l01Raw.f k s0_0 s0_1 s0_2 = some (r1, r2, r3)) :
  Calls Tryz.prog 74 #[.pointer (some ⟨g, 0, none⟩)] w fun e w' => e = .returned (.string r1) ∧ IsS85 w0 w' g s0_0 r2 r3 ∧ Below w0.heap.size w0 w' ∧ KeepBut w w' g none := by
 have HI0 := Aside0.mk hI
 have HK := Aside0.mk (KeepBut.refl w g none)
 have HL := Aside0.mk hB.size
 clear hI
 have HW0 := Aside0.mk hB.size
 have HB := Aside0.mk hB
 clear hB
 have H : ((spec_l01Below.f s0_0 s0_1 s0_2 12).bind fun bt165 => ((spec_l01Text.f k s0_0 bt165.2.1 bt165.2.2 bt165.1).bind fun bt168 => ((spec_l01Pick.f s0_0 bt168.2.1 bt168.2.2 (([(⟨#[]⟩ : ByteArray), (⟨#[34]⟩ : ByteArray), (⟨#[92]⟩ : ByteArray), (⟨#[10]⟩ : ByteArray), (⟨#[32]⟩ : ByteArray), (⟨#[37]⟩ : ByteArray), (⟨#[127]⟩ : ByteArray)] : List ByteArray))).bind fun bt174 => (if bt168.1.size + bt174.1.size ≤ 9223372036854775807 then (some (bt168.1 ++ bt174.1, bt174.2.1, bt174.2.2)) else (none))))) = some (r1, r2, r3) := h
 clear h
 replace H := Option.bind_eq_some_iff.mp H
 obtain ⟨⟨t165, t166, t167⟩, A20, H⟩ := H
 try dsimp only at H
 have A2 := Aside0.mk A20
 clear A20
 replace H := Option.bind_eq_some_iff.mp H
 obtain ⟨⟨t168, t169, t170⟩, A30, H⟩ := H
 try dsimp only at H
 have A3 := Aside0.mk A30
 clear A30
 obtain ⟨y171, hy171⟩ : ∃ y_ : List ByteArray, y_ = (([(⟨#[]⟩ : ByteArray), (⟨#[34]⟩ : ByteArray), (⟨#[92]⟩ : ByteArray), (⟨#[10]⟩ : ByteArray), (⟨#[32]⟩ : ByteArray), (⟨#[37]⟩ : ByteArray), (⟨#[127]⟩ : ByteArray)] : List ByteArray)) := ⟨_, rfl⟩
 first | replace H := hb1 H (show (spec_l01Pick.f s0_0 t169 t170 y171) = _ from (by rw [hy171])) | replace H := hb1 (hb2 H) (show (spec_l01Pick.f s0_0 t169 t170 y171) = _ from (by rw [hy171]))
 have Ny171 := Aside0.mk hy171
 clear hy171
 replace H := Option.bind_eq_some_iff.mp H
 obtain ⟨⟨t174, t175, t176⟩, A40, H⟩ := H
 try dsimp only at H
 have A4 := Aside0.mk A40
 clear A40
 by_cases c5 : t168.size + t174.size ≤ 9223372036854775807
 ·rw [if_pos c5] at H
  have c5b0 := eq_true c5
  have c5b1 : decide (t168.size + t174.size ≤ 9223372036854775807) = true := decide_eq_true c5
  try have c5b2 : (9223372036854775807 < t168.size + t174.size) = False := eq_false (Nat.not_lt.2 c5)
  obtain ⟨js6, hjs6⟩ : ∃ j_ : ByteArray, (t168 ++ t174) = j_ := ⟨_, rfl⟩
  replace H : (some (js6, t175, t176)) = some (r1, r2, r3) := by first | (rw [hjs6] at H; exact H) | (simp only [hjs6] at H ⊢; exact H)
  (try rw [hjs6] at A2)
  (try rw [hjs6] at A3)
  (try rw [hjs6] at A4)
  simp only [Option.some.injEq, Prod.mk.injEq] at H
  obtain ⟨rfl, rfl, rfl⟩ := H
  go_enter Tryz.func74, Tryz.ntmps74
  go_wp2_with (first | ((with_reducible refine gate_callee (f := 79) rfl ?_); refine goesL_ (some 5) rfl rfl Tryz.func79 zb13 rfl #[.pointer (some ⟨g, 0, none⟩), .int .i64 12] rfl zb2 ?_; (with_reducible refine (spec_l01Below.calls g s0_0 s0_1 s0_2 12 t165 t166 t167 w0 _ ?side1 ?side2 A2.out).mono ?_); (case side1 => exact zb1); (case side2 => exact zb3); rintro e w7 ⟨rfl, hi, hb, hk⟩; refine ⟨_, rfl, ?_⟩; replace HK := Aside0.mk (KeepBut.trans zb4 hk (.inl rfl)); replace HB := Aside0.mk hb; replace HI0 := Aside0.mk hi; (try clear hb); (try clear hb2); (try clear hk); (try clear hi)) | ((with_reducible refine gate_callee (f := 119) rfl ?_); refine goesL_ (some 6) rfl rfl Tryz.func119 zb13 rfl #[.pointer (some ⟨g, 0, none⟩), .int .i64 t165] rfl zb2 ?_; (with_reducible refine (spec_l01Text.calls k g s0_0 t166 t167 t165 t168 t169 t170 w0 _ ?side1 ?side2 A3.out).mono ?_); (case side1 => exact zb1); (case side2 => exact zb3); rintro e w8 ⟨rfl, hi, hb, hk⟩; refine ⟨_, rfl, ?_⟩; replace HK := Aside0.mk (KeepBut.trans zb4 hk (.inl rfl)); replace HB := Aside0.mk hb; replace HI0 := Aside0.mk hi; (try clear hb); (try clear hb2); (try clear hk); (try clear hi)) | ((with_reducible refine gate_dst (N := 8) rfl ?_); refine Kd.R_lit Kd.string _ 9 ?hg (N := 8) ?hd (xs := ([(⟨#[]⟩ : ByteArray), (⟨#[34]⟩ : ByteArray), (⟨#[92]⟩ : ByteArray), (⟨#[10]⟩ : ByteArray), (⟨#[32]⟩ : ByteArray), (⟨#[37]⟩ : ByteArray), (⟨#[127]⟩ : ByteArray)] : List ByteArray)) (inner := [.string (⟨#[]⟩ : ByteArray), .string (⟨#[34]⟩ : ByteArray), .string (⟨#[92]⟩ : ByteArray), .string (⟨#[10]⟩ : ByteArray), .string (⟨#[32]⟩ : ByteArray), .string (⟨#[37]⟩ : ByteArray), .string (⟨#[127]⟩ : ByteArray)]) (ok := fun _ => True) (okp := fun _ => True) ?hr ?hp (fun _ hk => hk) trivial (Below.refl _ _) (Nat.le_refl _) zb26 ?_; (case hd => rfl); (case hg => rfl); (case hr => exact zb15); (case hp => exact zb16); intro v172 w9 ho10 hb hg_ hnew_; clear hg_ hnew_; (first | rw [← Ny171.out] at ho10 | (simp only [Int.reduceToNat] at ho10; rw [← Ny171.out] at ho10)); have HO173 := Aside0.mk (Kd.R_lower ho10 (keep_size (w := w) (g := g) (row := none) zb4)); replace HK := Aside0.mk (KeepBut.trans zb4 (KeepBut.of_below hb g none) (.inl rfl)); replace HB := Aside0.mk (below_step zb3 hb); replace HI0 := Aside0.mk (IsS85.below zb1 hb); clear hb ho10; obtain ⟨Ao11, co11, eo11⟩ := Kd.R_slice HO173.out; subst eo11) | ((with_reducible refine gate_callee (f := 80) rfl ?_); refine goesL_ (some 9) rfl rfl Tryz.func80 zb13 rfl #[.pointer (some ⟨g, 0, none⟩), .slice Ao11 y171.length co11] rfl zb2 ?_; (with_reducible refine (spec_l01Pick.calls g s0_0 t169 t170 _ _ y171 t174 t175 t176 w0 _ ?side1 ?side2 ?side3 ?side4 ?side5 A4.out).mono ?_); (case side1 => exact zb1); (case side2 => exact zb3); (case side3 => repeat (first | exact (Kd.R_reads' HO173.out).2.2 | (with_reducible refine Kd.C_alloc ?_ _) | (with_reducible refine Kd.C_drewN ?_ _) | (with_reducible refine Kd.C_drew ?_))); (case side4 => exact (Kd.R_reads' HO173.out).2.1); (case side5 => exact far_slice (IsS85.own_ne HI0.out HO173.out zb33)); rintro e w12 ⟨rfl, hi, hb, hk⟩; refine ⟨_, rfl, ?_⟩; replace HO173 := Aside0.mk (Kd.R_mono (Kd.R_keep (IsS85.apart (show IsS85 w0 _ g s0_0 t169 t170 from zb1) (zR HO173.out) zb33) hk (fun _ h => h.2)) (fun _ h => h.1)); replace HK := Aside0.mk (KeepBut.trans zb4 hk (.inl rfl)); replace HB := Aside0.mk hb; replace HI0 := Aside0.mk hi; (try clear hb); (try clear hb2); (try clear hk); (try clear hi)))
  go_ret
  exact ⟨zb45, zb1, zb3, zb4⟩
 ·rw [if_neg c5] at H
  exact absurd H zb26
set_option maxHeartbeats 8000000 in
set_option maxRecDepth 100000 in
theorem spec_DrawQuote.calls (k : Nat) (A0 : Option Addr) (c0 : Nat) (l0 : List Int) (r : ByteArray) (w : World) (hr0 : Kd.C (Kd.int .u8) w A0 l0.length l0) (hc0 : l0.length ≤ c0) (h : spec_DrawQuote.f k l0 = some r) :
  Calls Tryz.prog 22 #[.slice A0 l0.length c0] w fun e w' => e = .returned (.string r) ∧ Below w.heap.size w w' := by
 have HR0 := Aside0.mk hr0
 have HC0 := Aside0.mk hc0
 clear hr0 hc0
 have HB := Aside0.mk (Below.refl w.heap.size w)
 have H : ((spec_l01New.f k l0).bind fun bt177 => ((spec_l01Raw.f k bt177.1 bt177.2.1 bt177.2.2).bind fun bt181 => (some bt181.1))) = some r := h
 clear h
 replace H := Option.bind_eq_some_iff.mp H
 obtain ⟨⟨t177, t178, t179⟩, A20, H⟩ := H
 try dsimp only at H
 have A2 := Aside0.mk A20
 clear A20
 replace H := Option.bind_eq_some_iff.mp H
 obtain ⟨⟨t181, t182, t183⟩, A30, H⟩ := H
 replace H : (some t181) = some r := H
 have A3 := Aside0.mk A30
 clear A30
 obtain rfl := Option.some.inj H
 go_enter Tryz.func22, Tryz.ntmps22
 go_wp2_with (first | ((with_reducible refine gate_callee (f := 54) rfl ?_); refine goesL_ (some 4) rfl rfl Tryz.func54 zb13 rfl #[.slice A0 l0.length c0] rfl zb2 ?_; (with_reducible refine (spec_l01New.calls k _ _ l0 t177 t178 t179 w _ ?side1 ?side2 ?side3 A2.out).mono ?_); (case side1 => exact zb0); (case side2 => exact HR0.out); (case side3 => exact HC0.out); rintro e w4 ⟨g180, rfl, hi, hb, hb2⟩; refine ⟨_, rfl, ?_⟩; replace HB := Aside0.mk hb; have HI180 := Aside0.mk hi; (try clear hb); (try clear hb2); (try clear hk); (try clear hi)) | ((with_reducible refine gate_callee (f := 74) rfl ?_); refine goesL_ (some 5) rfl rfl Tryz.func74 zb13 rfl #[.pointer (some ⟨g180, 0, none⟩)] rfl zb2 ?_; (with_reducible refine (spec_l01Raw.calls k g180 t177 t178 t179 t181 t182 t183 w _ ?side1 ?side2 A3.out).mono ?_); (case side1 => repeat (first | (with_reducible first | exact HI180.out | apply IsS85.alloc | apply IsS85.drewN | apply IsS85.drew | apply IsS85.set_1 | apply IsS85.set_2) | exact HI180.out)); (case side2 => exact zb39); rintro e w5 ⟨rfl, hi, hb, hk⟩; refine ⟨_, rfl, ?_⟩; replace HB := Aside0.mk hb; replace HI180 := Aside0.mk hi; (try clear hb); (try clear hb2); (try clear hk); (try clear hi)))
 go_ret
 exact ⟨zb8, zb39⟩
def impl_PutHex.T5 : Bool × List (List Nat × List Nat) := (true, [([], []), ([], []), ([], []), ([1, 2], [1, 2]), ([3], [3]), ([4], [4]), ([], []), ([], []), ([6, 7], [6, 7]), ([8], [8]), ([9], [9]), ([5, 10], [5, 10]), ([0, 11], [0, 11]), ([12, 12, 0, 1, 2, 3, 4, 5, 6, 7, 8, 9, 10, 11, 12], [0, 12])])
def impl_PutHex.B5 : List Nat := [0, 0, 0, 6, 14, 30, 0, 0, 192, 448, 960, 2046, 4095, 8191]
theorem impl_PutHex.tab5 : rtab .any (opsOf Tryz.f75 5) = impl_PutHex.T5 := by kernel_rfl
theorem impl_PutHex.bits5 : waitsOk impl_PutHex.T5.2 impl_PutHex.B5 = true := by kernel_rfl
set_option maxHeartbeats 8000000 in
set_option maxRecDepth 100000 in
theorem impl_PutHex.calls (k : Nat) (a0 : ByteArray) (r : ByteArray) (w : World) (h : impl_PutHex.f k a0 = some r) :
  Calls Tryz.prog 75 #[.string a0] w fun e w' => e = .returned (.string r) ∧ Below w.heap.size w w' := by
 have HB := Aside0.mk (Below.refl w.heap.size w)
 have H : (impl_PutHex.l0 k a0 (([] : List Int)) (a0.size : Int) 0) = some r := h
 clear h
 obtain ⟨y184, hy184⟩ : ∃ y_ : List Int, y_ = (([] : List Int)) := ⟨_, rfl⟩
 replace H : (impl_PutHex.l0 k a0 y184 (a0.size : Int) 0) = some r := by first | (rw [hy184]; with_reducible exact H) | (have H2_ := (Option.bind_some _ _).symm.trans H; rw [hy184]; with_reducible exact H2_) | (have H2_ := (Option.bind_some _ _).symm.trans H; with_reducible exact H2_) | with_reducible exact H | (rw [hy184]; exact H) | exact H
 have Ny184 := Aside0.mk hy184
 clear hy184
 have H' := Aside0.mk H
 clear H
 go_enter Tryz.func75, Tryz.ntmps75
 go_wp2_with (first | ((with_reducible refine gate_dst (N := 5) rfl ?_); refine Kd.R_lit (Kd.int .u8) _ 5 ?hg (N := 5) ?hd (xs := ([] : List Int)) (inner := []) (ok := fun _ => True) (okp := fun _ => True) ?hr ?hp (fun _ hk => hk) trivial (Below.refl _ _) (Nat.le_refl _) zb26 ?_; (case hd => rfl); (case hg => rfl); (case hr => exact zb15); (case hp => exact (Reps.none _ _)); intro v185 w2 ho3 hb hg_ hnew_; clear hg_ hnew_; (first | rw [← Ny184.out] at ho3 | (simp only [Int.reduceToNat] at ho3; rw [← Ny184.out] at ho3)); have HO186 := Aside0.mk (Kd.R_lower ho3 (below_size zb0)); replace HB := Aside0.mk (below_step zb0 hb); clear hb ho3))
 go_loopg [3, 8] k (fun kq v3 v8 w' => ∃ (x3_1 : List Int) (x8_1 : Int), v8 = .int .i64 x8_1 ∧ Aside0 (impl_PutHex.l0 kq a0 x3_1 (a0.size : Int) x8_1 = some r) ∧ Aside0 (kq ≤ k) ∧ Aside0 (Kd.R (Kd.int .u8) 5 w' w.heap.size (fun _ => True) v3 x3_1) ∧ Aside0 (Below w.heap.size w w'))
 case atStart => exact ⟨(y184), (0), zb7, H', ⟨Nat.le_refl _⟩, ⟨(zR HO186.out)⟩, ⟨zb0⟩⟩
 case round =>
  clear H'
  try clear p2
  obtain ⟨x3_1, x8_1, rfl, HA, HK1, HO_3, HB⟩ := hrel
  cases gk with
  | zero => exact absurd HA.out (by simp [impl_PutHex.l0])
  | succ k1 =>
   have H := HA.out
   clear HA
   simp only [impl_PutHex.l0] at H
   by_cases c4 : x8_1 < (a0.size : Int)
   ·rw [if_pos c4] at H
    have c4b0 : decide (x8_1 < (a0.size : Int)) = true := decide_eq_true c4
    clear c4
    by_cases c5 : 0 ≤ x8_1
    ·rw [if_pos c5] at H
     have c5b0 : decide (0 ≤ x8_1) = true := decide_eq_true c5
     clear c5
     by_cases c6 : x8_1 < (a0.size : Int)
     ·rw [if_pos c6] at H
      have c6b0 : decide (x8_1 < (a0.size : Int)) = true := decide_eq_true c6
      clear c6
      obtain ⟨ji8, hji8⟩ : ∃ j_ : Int, ((bt a0 x8_1) / 16) = j_ := ⟨_, rfl⟩
      replace H : (if 0 ≤ (ji8) then (if (ji8) < 16 then (if 0 ≤ (Go.bits .and .u8 (bt a0 x8_1) 15) then (if (Go.bits .and .u8 (bt a0 x8_1) 15) < 16 then ((some (([bt (⟨#[48, 49, 50, 51, 52, 53, 54, 55, 56, 57, 97, 98, 99, 100, 101, 102]⟩ : ByteArray) (ji8), bt (⟨#[48, 49, 50, 51, 52, 53, 54, 55, 56, 57, 97, 98, 99, 100, 101, 102]⟩ : ByteArray) (Go.bits .and .u8 (bt a0 x8_1) 15)] : List Int) : List Int)).bind fun y187 => (if x3_1.length + y187.length < 140737488355328 then (impl_PutHex.l0 k1 a0 (x3_1 ++ y187) (a0.size : Int) (wrap64 (x8_1 + 1))) else (none))) else (none)) else (none)) else (none)) else (none)) = some r := by first | (rw [hji8] at H; exact H) | (simp only [hji8] at H ⊢; exact H)
      by_cases c9 : 0 ≤ (ji8)
      ·rw [if_pos c9] at H
       have c9b0 : decide (0 ≤ (ji8)) = true := decide_eq_true c9
       clear c9
       by_cases c10 : (ji8) < 16
       ·rw [if_pos c10] at H
        have c10b0 : decide ((ji8) < 16) = true := decide_eq_true c10
        clear c10
        by_cases c13 : 0 ≤ (Go.bits .and .u8 (bt a0 x8_1) 15)
        ·rw [if_pos c13] at H
         have c13b0 : decide (0 ≤ (Go.bits .and .u8 (bt a0 x8_1) 15)) = true := decide_eq_true c13
         clear c13
         by_cases c14 : (Go.bits .and .u8 (bt a0 x8_1) 15) < 16
         ·rw [if_pos c14] at H
          have c14b0 : decide ((Go.bits .and .u8 (bt a0 x8_1) 15) < 16) = true := decide_eq_true c14
          clear c14
          obtain ⟨y187, hy187⟩ : ∃ y_ : List Int, y_ = (([bt (⟨#[48, 49, 50, 51, 52, 53, 54, 55, 56, 57, 97, 98, 99, 100, 101, 102]⟩ : ByteArray) (ji8), bt (⟨#[48, 49, 50, 51, 52, 53, 54, 55, 56, 57, 97, 98, 99, 100, 101, 102]⟩ : ByteArray) (Go.bits .and .u8 (bt a0 x8_1) 15)] : List Int)) := ⟨_, rfl⟩
          replace H : (if x3_1.length + y187.length < 140737488355328 then (impl_PutHex.l0 k1 a0 (x3_1 ++ y187) (a0.size : Int) (wrap64 (x8_1 + 1))) else (none)) = some r := by first | (rw [hy187]; with_reducible exact H) | (have H2_ := (Option.bind_some _ _).symm.trans H; rw [hy187]; with_reducible exact H2_) | (have H2_ := (Option.bind_some _ _).symm.trans H; with_reducible exact H2_) | with_reducible exact H | (rw [hy187]; exact H) | exact H
          have Ny187 := Aside0.mk hy187
          clear hy187
          by_cases c16 : x3_1.length + y187.length < 140737488355328
          ·rw [if_pos c16] at H
           have LMc16 := Aside0.mk c16
           clear c16
           obtain ⟨y190, hy190⟩ : ∃ y_ : List Int, y_ = (x3_1 ++ y187) := ⟨_, rfl⟩
           replace H : (impl_PutHex.l0 k1 a0 y190 (a0.size : Int) (wrap64 (x8_1 + 1))) = some r := by first | (rw [hy190]; with_reducible exact H) | (have H2_ := (Option.bind_some _ _).symm.trans H; rw [hy190]; with_reducible exact H2_) | (have H2_ := (Option.bind_some _ _).symm.trans H; with_reducible exact H2_) | with_reducible exact H | (rw [hy190]; exact H) | exact H
           have Ny190 := Aside0.mk hy190
           clear hy190
           have H' := Aside0.mk H
           clear H
           try go_wp2
           replace HO_3 := Aside0.mk (Kd.R_drew HO_3.out)
           replace HB := Aside0.mk (below_drew1 HB.out)
           have p7 : 0 ≤ (x8_1 : Int) := of_decide_eq_true zb5
           have q7 : x8_1 < (a0.size : Int) := of_decide_eq_true zb5
           have hx7 := bt_at a0 x8_1
           replace p7 := eq_true p7
           replace q7 := eq_true q7
           have p11 : 0 ≤ ((ji8) : Int) := of_decide_eq_true zb5
           have q11 : (ji8) < (16 : Int) := of_decide_eq_true zb5
           have hx11 := bt_at (⟨#[48, 49, 50, 51, 52, 53, 54, 55, 56, 57, 97, 98, 99, 100, 101, 102]⟩ : ByteArray) (ji8)
           replace p11 := eq_true p11
           replace q11 := eq_true q11
           have p12 : 0 ≤ (x8_1 : Int) := of_decide_eq_true zb5
           have q12 : x8_1 < (a0.size : Int) := of_decide_eq_true zb5
           have hx12 := bt_at a0 x8_1
           replace p12 := eq_true p12
           replace q12 := eq_true q12
           have p15 : 0 ≤ ((Go.bits .and .u8 (bt a0 x8_1) 15) : Int) := of_decide_eq_true zb5
           have q15 : (Go.bits .and .u8 (bt a0 x8_1) 15) < (16 : Int) := of_decide_eq_true zb5
           have hx15 := bt_at (⟨#[48, 49, 50, 51, 52, 53, 54, 55, 56, 57, 97, 98, 99, 100, 101, 102]⟩ : ByteArray) (Go.bits .and .u8 (bt a0 x8_1) 15)
           replace p15 := eq_true p15
           replace q15 := eq_true q15
           refine start_ (n := 14) (S := fun w' => True) (ds := []) #[false, false, false, false, false, false, false, false, false, false, false, false, false, false] zb13 rfl rfl trivial (fun hHeld => ?_); refine with_tabW impl_PutHex.tab5 impl_PutHex.bits5 (fun HT_ HW_ => ?_)
           generalize wr.drew = w17 at HO_3 HB hHeld ⊢
           refine pz 0 11 ?_
           refine pz 1 12 ?_
           refine pz 2 13 ?_
           refine pz 6 17 ?_
           refine pz 7 18 ?_
           refine take_ (i := 3) (N := some 14) (v := ?_) (a' := ?_) #[true, true, true, true, false, false, true, true, false, false, false, false, false, false] rfl rfl (take_ofW HT_.out HW_.out zb13) (fun _ _ _ h => h) (Or.inl ⟨by rfl, ?_⟩) hHeld ?_ ?_
           rotate_left
           ·intro w' _
            go_simp
            with_reducible rfl
           rotate_left
           ·simp only [Act.put, List.setIfInBounds_toArray, List.set_cons_zero, List.set_cons_succ, i64_w, i32_w]
            rfl
           refine pz 4 15 ?_
           refine take_ (i := 5) (N := some 16) (v := ?_) (a' := ?_) #[true, true, true, true, true, true, true, true, false, false, false, false, false, false] rfl rfl (take_ofW HT_.out HW_.out zb13) (fun _ _ _ h => h) (Or.inl ⟨by rfl, ?_⟩) hHeld ?_ ?_
           rotate_left
           ·intro w' _
            go_simp
            with_reducible rfl
           rotate_left
           ·simp only [Act.put, List.setIfInBounds_toArray, List.set_cons_zero, List.set_cons_succ, i64_w, i32_w]
            rfl
           refine take_ (i := 8) (N := some 19) (v := ?_) (a' := ?_) #[true, true, true, true, true, true, true, true, true, false, false, false, false, false] rfl rfl (take_ofW HT_.out HW_.out zb13) (fun _ _ _ h => h) (Or.inl ⟨by rfl, ?_⟩) hHeld ?_ ?_
           rotate_left
           ·intro w' _
            go_simp
            with_reducible rfl
           rotate_left
           ·simp only [Act.put, List.setIfInBounds_toArray, List.set_cons_zero, List.set_cons_succ, i64_w, i32_w]
            rfl
           refine pz 9 20 ?_
           refine take_ (i := 10) (N := some 21) (v := ?_) (a' := ?_) #[true, true, true, true, true, true, true, true, true, true, true, false, false, false] rfl rfl (take_ofW HT_.out HW_.out zb13) (fun _ _ _ h => h) (Or.inl ⟨by rfl, ?_⟩) hHeld ?_ ?_
           rotate_left
           ·intro w' _
            go_simp
            with_reducible rfl
           rotate_left
           ·simp only [Act.put, List.setIfInBounds_toArray, List.set_cons_zero, List.set_cons_succ, i64_w, i32_w]
            rfl
           refine one_ (i := 11) (N := some 22) #[true, true, true, true, true, true, true, true, true, true, true, true, false, false] rfl rfl (one_of HT_.out zb13) zb33 (fun K hK => ?_)
           refine Kd.R_lit_step (Kd.int .u8) _ 5 ?hg (N := 22) ?hd (xs := ([bt (⟨#[48, 49, 50, 51, 52, 53, 54, 55, 56, 57, 97, 98, 99, 100, 101, 102]⟩ : ByteArray) (ji8), bt (⟨#[48, 49, 50, 51, 52, 53, 54, 55, 56, 57, 97, 98, 99, 100, 101, 102]⟩ : ByteArray) (Go.bits .and .u8 (bt a0 x8_1) 15)] : List Int)) (inner := [.int .u8 (bt (⟨#[48, 49, 50, 51, 52, 53, 54, 55, 56, 57, 97, 98, 99, 100, 101, 102]⟩ : ByteArray) (ji8)), .int .u8 (bt (⟨#[48, 49, 50, 51, 52, 53, 54, 55, 56, 57, 97, 98, 99, 100, 101, 102]⟩ : ByteArray) (Go.bits .and .u8 (bt a0 x8_1) 15))]) (ok := fun _ => True) (okp := fun _ => True) ?hr ?hp (fun _ hk => hk) trivial (Below.refl _ _) (Nat.le_refl _) zb26 ?_; (case hd => rfl); (case hg => rfl); (case hr => exact zb15); (case hp => exact zb29)
           intro v188 w18 ho19 hb hg_ hnew_
           clear hg_ hnew_
           (first | rw [← Ny187.out] at ho19 | (simp only [Int.reduceToNat] at ho19; rw [← Ny187.out] at ho19))
           have HO189 := Aside0.mk (Kd.R_lower (Kd.R_new' ho19 (Kd.R_lt (zR HO_3.out))) (below_size zb0))
           replace HO_3 := Aside0.mk (Kd.R_elder' (zR HO_3.out) (Kd.R_base ho19) hb)
           replace HB := Aside0.mk (below_step zb0 hb)
           clear hb ho19
           obtain ⟨Ao21, co21, eo21⟩ := Kd.R_slice HO189.out
           (first | subst eo21 | (injection eo21 with f1_ f2_ f3_; have f4_ := f1_.symm; have f5_ := f3_.symm; clear f1_ f2_ f3_; subst f4_; subst f5_))
           refine hK.out _ _ trivial (fun hHeld => ?_)
           clear hK K
           refine norm_ (a' := ?_) ?_ ?_
           rotate_left
           ·show Act.put _ (some 22) _ = _
            simp only [Act.put, List.setIfInBounds_toArray, List.set_cons_zero, List.set_cons_succ, i64_w, i32_w]
            rfl
           refine one_ (i := 12) (N := some 23) #[true, true, true, true, true, true, true, true, true, true, true, true, true, false] rfl rfl (one_of HT_.out zb13) zb33 (fun K hK => ?_)
           refine Kd.R_append_rows_step (Kd.int .u8) (w0 := w) w.heap.size (by rfl) (.tmp 11) (.tmp 22) 22 5 (.int .u8 0) 1 rfl Tryz.underlying22 info5 rfl zb33 zb40 u3 x3_1 y187 _ _ _ (fun k_ => some k_ ≠ (.slice Ao21 y187.length co21 : Value).ownBlock) (fun _ => False) rfl rfl ?aO ?aR (fun _ _ h => h) (fun _ h => h.elim) ?aF ?aB ?aS ?aL ?_
           (case aR => repeat (first | exact (Kd.R_reads' HO189.out).2.2 | (with_reducible refine Kd.C_alloc ?_ _) | (with_reducible refine Kd.C_drewN ?_ _) | (with_reducible refine Kd.C_drew ?_)))
           (case aB => exact zb0)
           (case aF => exact (fun k_ hk => Kd.fresh' (Kd.R_lt (zR HO189.out)) k_ hk))
           (case aO => exact (zR (Kd.R_mono HO_3.out (fun _ hk => hk.2))))
           (case aS => exact (below_size zb0))
           (case aL => exact zb47)
           intro v191 w20 ho hb hg hat
           rw [← Ny190.out] at ho
           replace HO189 := Aside0.mk (Kd.R_after (ok := (fun _ => True)) (zR HO189.out) hg hat)
           replace HB := Aside0.mk hb
           have HO192 := Aside0.mk ho
           clear HO_3 ho hb hg hat
           refine hK.out _ _ trivial (fun hHeld => ?_)
           clear hK K
           refine norm_ (a' := ?_) ?_ ?_
           rotate_left
           ·show Act.put _ (some 23) _ = _
            simp only [Act.put, List.setIfInBounds_toArray, List.set_cons_zero, List.set_cons_succ, i64_w, i32_w]
            rfl
           refine pz 13 3 ?_
           refine done_ (done_of HT_.out zb13) ?_
           try go_wp2
           go_roundg k1
           case measure => have := HK1.out; omega
           case rel => exact ⟨(y190), (wrap64 (x8_1 + 1)), zb7, H', ⟨by have := HK1.out; omega⟩, ⟨(zR (Kd.R_mono HO192.out (fun _ hk => trivial)))⟩, ⟨zb0⟩⟩
          ·rw [if_neg c16] at H
           exact absurd H zb26
         ·rw [if_neg c14] at H
          exact absurd H zb26
        ·rw [if_neg c13] at H
         exact absurd H zb26
       ·rw [if_neg c10] at H
        exact absurd H zb26
      ·rw [if_neg c9] at H
       exact absurd H zb26
     ·rw [if_neg c6] at H
      exact absurd H zb26
    ·rw [if_neg c5] at H
     exact absurd H zb26
   ·rw [if_neg c4] at H
    have c4b0 : decide (x8_1 < (a0.size : Int)) = false := decide_eq_false c4
    clear c4
    obtain rfl := Option.some.inj H
    have hcv22 := own_string (P := Tryz.prog) Tryz.underlying22 Tryz.underlying5 Tryz.underlying9 (Kd.own_of_R HO_3.out)
    have hcvd23 := fun n_ : Nat => own_string (P := Tryz.prog) Tryz.underlying22 Tryz.underlying5 Tryz.underlying9 (Kd.own_of_R (Kd.R_drewN HO_3.out n_))
    go_wp2
    go_ret
    exact ⟨zb8, zb0⟩
set_option maxHeartbeats 8000000 in
set_option maxRecDepth 100000 in
theorem impl_Quote.calls (k : Nat) (a0 : ByteArray) (r : ByteArray) (w : World) (h : impl_Quote.f k a0 = some r) :
  Calls Tryz.prog 23 #[.string a0] w fun e w' => e = .returned (.string r) ∧ Below w.heap.size w w' := by
 have HB := Aside0.mk (Below.refl w.heap.size w)
 have H : (impl_Quote.l0 k a0 (⟨#[34]⟩ : ByteArray) (a0.size : Int) 0) = some r := h
 clear h
 have H' := Aside0.mk H
 clear H
 go_enter Tryz.func23, Tryz.ntmps23
 go_wp2
 go_loopg [3, 8] k (fun kq v3 v8 w' => ∃ (x3_1 : ByteArray) (x8_1 : Int), v3 = .string x3_1 ∧ v8 = .int .i64 x8_1 ∧ Aside0 (impl_Quote.l0 kq a0 x3_1 (a0.size : Int) x8_1 = some r) ∧ Aside0 (kq ≤ k) ∧ Aside0 (Below w.heap.size w w'))
 case atStart => exact ⟨((⟨#[34]⟩ : ByteArray)), (0), zb7, zb7, H', ⟨Nat.le_refl _⟩, ⟨zb0⟩⟩
 case round =>
  clear H'
  obtain ⟨x3_1, x8_1, rfl, rfl, HA, HK1, HB⟩ := hrel
  cases gk with
  | zero => exact absurd HA.out (by simp [impl_Quote.l0])
  | succ k1 =>
   have H := HA.out
   clear HA
   simp only [impl_Quote.l0] at H
   by_cases c2 : x8_1 < (a0.size : Int)
   ·rw [if_pos c2] at H
    have c2b0 : decide (x8_1 < (a0.size : Int)) = true := decide_eq_true c2
    clear c2
    by_cases c3 : 0 ≤ x8_1
    ·rw [if_pos c3] at H
     have c3b0 : decide (0 ≤ x8_1) = true := decide_eq_true c3
     clear c3
     by_cases c4 : x8_1 < (a0.size : Int)
     ·rw [if_pos c4] at H
      have c4b0 : decide (x8_1 < (a0.size : Int)) = true := decide_eq_true c4
      clear c4
      have HC6 := Aside0.mk H
      clear H
      have p5 : 0 ≤ (x8_1 : Int) := of_decide_eq_true zb5
      have q5 : x8_1 < (a0.size : Int) := of_decide_eq_true zb5
      have hx5 := bt_at a0 x8_1
      replace p5 := eq_true p5
      replace q5 := eq_true q5
      go_upto_region 7 with (fail)
      go_cut [21] (fun v21 wc => ∃ (kq : Nat) (x21_5 : Bool), v21 = .bool x21_5 ∧ Aside0 (impl_Quote.j1 kq a0 x3_1 x8_1 (bt a0 x8_1) (a0.size : Int) x8_1 x21_5 = some r) ∧ Aside0 (kq ≤ k1) ∧ Aside0 (Below w.heap.size w wc))
      case first =>
       have H := HC6.out
       clear HC6
       by_cases c7 : (bt a0 x8_1) = 34
       ·rw [if_pos c7] at H
        have c7b0 : ((bt a0 x8_1) == 34) = true := beq_iff_eq.mpr c7
        have c7b1 : ((bt a0 x8_1) != 34) = false := bne_eq_false_iff_eq.mpr c7
        clear c7
        (first | rw [c7b0] | (simp only [i64_w, i32_w]; rw [c7b0]) | skip)
        have H' := Aside0.mk H
        clear H
        go_wp2
        go_meet
        case rel => exact ⟨_, (true), zb7, H', ⟨by have := HK1.out; first | omega | exact Nat.le_refl _⟩, ⟨zb0⟩⟩
       ·rw [if_neg c7] at H
        have c7b0 : ((bt a0 x8_1) == 34) = false := beq_eq_false_iff_ne.mpr c7
        have c7b1 : ((bt a0 x8_1) != 34) = true := bne_iff_ne.mpr c7
        (first | rw [c7b0] | (simp only [i64_w, i32_w]; rw [c7b0]) | skip)
        have H' := Aside0.mk H
        clear H
        go_wp2
        go_meet
        case rel => exact ⟨_, (((bt a0 x8_1) == 92)), zb7, H', ⟨by have := HK1.out; first | omega | exact Nat.le_refl _⟩, ⟨zb0⟩⟩
      case rest =>
       clear HC6
       try clear c2
       try clear c2b0
       try clear p2
       try clear c3
       try clear c3b0
       try clear c4
       try clear c4b0
       try clear p5
       try clear q5
       try clear hx5
       try clear c7
       try clear c7b0
       try clear c7b1
       try clear p5
       try clear q5
       obtain ⟨kq, x21_5, rfl, HA, HJ5, HB⟩ := hcut
       cases kq with
       | zero => exact absurd HA.out (by simp [impl_Quote.j1])
       | succ kj5 =>
        have H := HA.out
        clear HA
        simp only [impl_Quote.j1] at H
        by_cases c8 : x21_5 = true
        ·subst c8
         rw [if_pos rfl] at H
         by_cases c9 : 0 ≤ x8_1
         ·rw [if_pos c9] at H
          have c9b0 := eq_true c9
          have c9b1 : decide (0 ≤ x8_1) = true := decide_eq_true c9
          clear c9
          by_cases c10 : x8_1 ≤ (wrap64 (x8_1 + 1))
          ·rw [if_pos c10] at H
           have c10b0 := eq_true c10
           have c10b1 : decide (x8_1 ≤ (wrap64 (x8_1 + 1))) = true := decide_eq_true c10
           by_cases c11 : (wrap64 (x8_1 + 1)) ≤ (a0.size : Int)
           ·rw [if_pos c11] at H
            have c11b0 := eq_true c11
            have c11b1 : decide ((wrap64 (x8_1 + 1)) ≤ (a0.size : Int)) = true := decide_eq_true c11
            obtain ⟨js12, hjs12⟩ : ∃ j_ : ByteArray, (a0.extract (x8_1 : Int).toNat ((wrap64 (x8_1 + 1)) : Int).toNat) = j_ := ⟨_, rfl⟩
            replace H : (if 1 + (js12).size ≤ 9223372036854775807 then (if x3_1.size + ((⟨#[92]⟩ : ByteArray) ++ (js12)).size ≤ 9223372036854775807 then (impl_Quote.l0 kj5 a0 (x3_1 ++ ((⟨#[92]⟩ : ByteArray) ++ (js12))) (a0.size : Int) (wrap64 (x8_1 + 1))) else (none)) else (none)) = some r := by first | (rw [hjs12] at H; exact H) | (simp only [hjs12] at H ⊢; exact H)
            by_cases c13 : 1 + (js12).size ≤ 9223372036854775807
            ·rw [if_pos c13] at H
             have c13b0 := eq_true c13
             have c13b1 : decide (1 + (js12).size ≤ 9223372036854775807) = true := decide_eq_true c13
             try have c13b2 : (9223372036854775807 < 1 + (js12).size) = False := eq_false (Nat.not_lt.2 c13)
             obtain ⟨js14, hjs14⟩ : ∃ j_ : ByteArray, ((⟨#[92]⟩ : ByteArray) ++ (js12)) = j_ := ⟨_, rfl⟩
             replace H : (if x3_1.size + (js14).size ≤ 9223372036854775807 then (impl_Quote.l0 kj5 a0 (x3_1 ++ (js14)) (a0.size : Int) (wrap64 (x8_1 + 1))) else (none)) = some r := by first | (rw [hjs14] at H; exact H) | (simp only [hjs14] at H ⊢; exact H)
             by_cases c15 : x3_1.size + (js14).size ≤ 9223372036854775807
             ·rw [if_pos c15] at H
              have c15b0 := eq_true c15
              have c15b1 : decide (x3_1.size + (js14).size ≤ 9223372036854775807) = true := decide_eq_true c15
              try have c15b2 : (9223372036854775807 < x3_1.size + (js14).size) = False := eq_false (Nat.not_lt.2 c15)
              obtain ⟨js16, hjs16⟩ : ∃ j_ : ByteArray, (x3_1 ++ (js14)) = j_ := ⟨_, rfl⟩
              replace H : (impl_Quote.l0 kj5 a0 js16 (a0.size : Int) (wrap64 (x8_1 + 1))) = some r := by first | (rw [hjs16] at H; exact H) | (simp only [hjs16] at H ⊢; exact H)
              have H' := Aside0.mk H
              clear H
              go_wp2
              go_roundg kj5
              case measure => have := HK1.out; have := HJ5.out; omega
              case rel => exact ⟨(js16), (wrap64 (x8_1 + 1)), (by first | rfl | (simp; done) | (simp only [← hjs16] <;> (first | rfl | simp)) | (simp [*]; done)), zb7, H', ⟨by have := HK1.out; have := HJ5.out; omega⟩, ⟨zb0⟩⟩
             ·rw [if_neg c15] at H
              exact absurd H zb26
            ·rw [if_neg c13] at H
             exact absurd H zb26
           ·rw [if_neg c11] at H
            exact absurd H zb26
          ·rw [if_neg c10] at H
           exact absurd H zb26
         ·rw [if_neg c9] at H
          exact absurd H zb26
        ·replace c8 := Bool.eq_false_iff.mpr c8
         subst c8
         rw [if_neg (show ¬ (false = true) by decide)] at H
         by_cases c17 : (bt a0 x8_1) = 10
         ·rw [if_pos c17] at H
          have c17b0 : ((bt a0 x8_1) == 10) = true := beq_iff_eq.mpr c17
          have c17b1 : ((bt a0 x8_1) != 10) = false := bne_eq_false_iff_eq.mpr c17
          clear c17
          by_cases c18 : x3_1.size + 2 ≤ 9223372036854775807
          ·rw [if_pos c18] at H
           have c18b0 := eq_true c18
           have c18b1 : decide (x3_1.size + 2 ≤ 9223372036854775807) = true := decide_eq_true c18
           try have c18b2 : (9223372036854775807 < x3_1.size + 2) = False := eq_false (Nat.not_lt.2 c18)
           obtain ⟨js19, hjs19⟩ : ∃ j_ : ByteArray, (x3_1 ++ (⟨#[92, 110]⟩ : ByteArray)) = j_ := ⟨_, rfl⟩
           replace H : (impl_Quote.l0 kj5 a0 js19 (a0.size : Int) (wrap64 (x8_1 + 1))) = some r := by first | (rw [hjs19] at H; exact H) | (simp only [hjs19] at H ⊢; exact H)
           have H' := Aside0.mk H
           clear H
           go_wp2
           go_roundg kj5
           case measure => have := HK1.out; have := HJ5.out; omega
           case rel => exact ⟨(js19), (wrap64 (x8_1 + 1)), (by first | rfl | (simp; done) | (simp only [← hjs19] <;> (first | rfl | simp)) | (simp [*]; done)), zb7, H', ⟨by have := HK1.out; have := HJ5.out; omega⟩, ⟨zb0⟩⟩
          ·rw [if_neg c18] at H
           exact absurd H zb26
         ·rw [if_neg c17] at H
          have c17b0 : ((bt a0 x8_1) == 10) = false := beq_eq_false_iff_ne.mpr c17
          have c17b1 : ((bt a0 x8_1) != 10) = true := bne_iff_ne.mpr c17
          by_cases c20 : (bt a0 x8_1) < 32
          ·rw [if_pos c20] at H
           have c20b0 : decide ((bt a0 x8_1) < 32) = true := decide_eq_true c20
           clear c20
           by_cases c21 : 0 ≤ x8_1
           ·rw [if_pos c21] at H
            have c21b0 := eq_true c21
            have c21b1 : decide (0 ≤ x8_1) = true := decide_eq_true c21
            clear c21
            by_cases c22 : x8_1 ≤ (wrap64 (x8_1 + 1))
            ·rw [if_pos c22] at H
             have c22b0 := eq_true c22
             have c22b1 : decide (x8_1 ≤ (wrap64 (x8_1 + 1))) = true := decide_eq_true c22
             by_cases c23 : (wrap64 (x8_1 + 1)) ≤ (a0.size : Int)
             ·rw [if_pos c23] at H
              have c23b0 := eq_true c23
              have c23b1 : decide ((wrap64 (x8_1 + 1)) ≤ (a0.size : Int)) = true := decide_eq_true c23
              obtain ⟨js24, hjs24⟩ : ∃ j_ : ByteArray, (a0.extract (x8_1 : Int).toNat ((wrap64 (x8_1 + 1)) : Int).toNat) = j_ := ⟨_, rfl⟩
              replace H : ((impl_PutHex.f kj5 (js24)).bind fun t193 => (if 2 + t193.size ≤ 9223372036854775807 then (if x3_1.size + ((⟨#[92, 120]⟩ : ByteArray) ++ t193).size ≤ 9223372036854775807 then (impl_Quote.l0 kj5 a0 (x3_1 ++ ((⟨#[92, 120]⟩ : ByteArray) ++ t193)) (a0.size : Int) (wrap64 (x8_1 + 1))) else (none)) else (none))) = some r := by first | (rw [hjs24] at H; exact H) | (simp only [hjs24] at H ⊢; exact H)
              replace H := Option.bind_eq_some_iff.mp H
              obtain ⟨t193, A250, H⟩ := H
              try dsimp only at H
              have A25 := Aside0.mk A250
              clear A250
              by_cases c26 : 2 + t193.size ≤ 9223372036854775807
              ·rw [if_pos c26] at H
               have c26b0 := eq_true c26
               have c26b1 : decide (2 + t193.size ≤ 9223372036854775807) = true := decide_eq_true c26
               try have c26b2 : (9223372036854775807 < 2 + t193.size) = False := eq_false (Nat.not_lt.2 c26)
               obtain ⟨js27, hjs27⟩ : ∃ j_ : ByteArray, ((⟨#[92, 120]⟩ : ByteArray) ++ t193) = j_ := ⟨_, rfl⟩
               replace H : (if x3_1.size + (js27).size ≤ 9223372036854775807 then (impl_Quote.l0 kj5 a0 (x3_1 ++ (js27)) (a0.size : Int) (wrap64 (x8_1 + 1))) else (none)) = some r := by first | (rw [hjs27] at H; exact H) | (simp only [hjs27] at H ⊢; exact H)
               (try rw [hjs27] at A25)
               by_cases c28 : x3_1.size + (js27).size ≤ 9223372036854775807
               ·rw [if_pos c28] at H
                have c28b0 := eq_true c28
                have c28b1 : decide (x3_1.size + (js27).size ≤ 9223372036854775807) = true := decide_eq_true c28
                try have c28b2 : (9223372036854775807 < x3_1.size + (js27).size) = False := eq_false (Nat.not_lt.2 c28)
                obtain ⟨js29, hjs29⟩ : ∃ j_ : ByteArray, (x3_1 ++ (js27)) = j_ := ⟨_, rfl⟩
                replace H : (impl_Quote.l0 kj5 a0 js29 (a0.size : Int) (wrap64 (x8_1 + 1))) = some r := by first | (rw [hjs29] at H; exact H) | (simp only [hjs29] at H ⊢; exact H)
                (try rw [hjs29] at A25)
                have H' := Aside0.mk H
                clear H
                go_wp2_with (first | ((with_reducible refine gate_callee (f := 75) rfl ?_); refine goesL_ (some 54) rfl rfl Tryz.func75 zb13 rfl #[.string js24] rfl zb2 ?_; (with_reducible refine (impl_PutHex.calls kj5 js24 t193 _ A25.out).mono ?_); rintro e w30 ⟨rfl, hb⟩; refine ⟨_, rfl, ?_⟩; replace HB := Aside0.mk (below_step zb0 hb); (try clear hb)))
                go_roundg kj5
                case measure => have := HK1.out; have := HJ5.out; omega
                case rel => exact ⟨(js29), (wrap64 (x8_1 + 1)), (by first | rfl | (simp; done) | (simp only [← hjs29] <;> (first | rfl | simp)) | (simp [*]; done)), zb7, H', ⟨by have := HK1.out; have := HJ5.out; omega⟩, ⟨zb0⟩⟩
               ·rw [if_neg c28] at H
                exact absurd H zb26
              ·rw [if_neg c26] at H
               exact absurd H zb26
             ·rw [if_neg c23] at H
              exact absurd H zb26
            ·rw [if_neg c22] at H
             exact absurd H zb26
           ·rw [if_neg c21] at H
            exact absurd H zb26
          ·rw [if_neg c20] at H
           have c20b0 : decide ((bt a0 x8_1) < 32) = false := decide_eq_false c20
           clear c20
           by_cases c31 : (bt a0 x8_1) ≥ 127
           ·rw [if_pos c31] at H
            have c31b0 : decide (127 ≤ (bt a0 x8_1)) = true := decide_eq_true c31
            clear c31
            by_cases c32 : 0 ≤ x8_1
            ·rw [if_pos c32] at H
             have c32b0 := eq_true c32
             have c32b1 : decide (0 ≤ x8_1) = true := decide_eq_true c32
             clear c32
             by_cases c33 : x8_1 ≤ (wrap64 (x8_1 + 1))
             ·rw [if_pos c33] at H
              have c33b0 := eq_true c33
              have c33b1 : decide (x8_1 ≤ (wrap64 (x8_1 + 1))) = true := decide_eq_true c33
              by_cases c34 : (wrap64 (x8_1 + 1)) ≤ (a0.size : Int)
              ·rw [if_pos c34] at H
               have c34b0 := eq_true c34
               have c34b1 : decide ((wrap64 (x8_1 + 1)) ≤ (a0.size : Int)) = true := decide_eq_true c34
               obtain ⟨js35, hjs35⟩ : ∃ j_ : ByteArray, (a0.extract (x8_1 : Int).toNat ((wrap64 (x8_1 + 1)) : Int).toNat) = j_ := ⟨_, rfl⟩
               replace H : ((impl_PutHex.f kj5 (js35)).bind fun t194 => (if 2 + t194.size ≤ 9223372036854775807 then (if x3_1.size + ((⟨#[92, 120]⟩ : ByteArray) ++ t194).size ≤ 9223372036854775807 then (impl_Quote.l0 kj5 a0 (x3_1 ++ ((⟨#[92, 120]⟩ : ByteArray) ++ t194)) (a0.size : Int) (wrap64 (x8_1 + 1))) else (none)) else (none))) = some r := by first | (rw [hjs35] at H; exact H) | (simp only [hjs35] at H ⊢; exact H)
               replace H := Option.bind_eq_some_iff.mp H
               obtain ⟨t194, A360, H⟩ := H
               try dsimp only at H
               have A36 := Aside0.mk A360
               clear A360
               by_cases c37 : 2 + t194.size ≤ 9223372036854775807
               ·rw [if_pos c37] at H
                have c37b0 := eq_true c37
                have c37b1 : decide (2 + t194.size ≤ 9223372036854775807) = true := decide_eq_true c37
                try have c37b2 : (9223372036854775807 < 2 + t194.size) = False := eq_false (Nat.not_lt.2 c37)
                obtain ⟨js38, hjs38⟩ : ∃ j_ : ByteArray, ((⟨#[92, 120]⟩ : ByteArray) ++ t194) = j_ := ⟨_, rfl⟩
                replace H : (if x3_1.size + (js38).size ≤ 9223372036854775807 then (impl_Quote.l0 kj5 a0 (x3_1 ++ (js38)) (a0.size : Int) (wrap64 (x8_1 + 1))) else (none)) = some r := by first | (rw [hjs38] at H; exact H) | (simp only [hjs38] at H ⊢; exact H)
                (try rw [hjs38] at A36)
                by_cases c39 : x3_1.size + (js38).size ≤ 9223372036854775807
                ·rw [if_pos c39] at H
                 have c39b0 := eq_true c39
                 have c39b1 : decide (x3_1.size + (js38).size ≤ 9223372036854775807) = true := decide_eq_true c39
                 try have c39b2 : (9223372036854775807 < x3_1.size + (js38).size) = False := eq_false (Nat.not_lt.2 c39)
                 obtain ⟨js40, hjs40⟩ : ∃ j_ : ByteArray, (x3_1 ++ (js38)) = j_ := ⟨_, rfl⟩
                 replace H : (impl_Quote.l0 kj5 a0 js40 (a0.size : Int) (wrap64 (x8_1 + 1))) = some r := by first | (rw [hjs40] at H; exact H) | (simp only [hjs40] at H ⊢; exact H)
                 (try rw [hjs40] at A36)
                 have H' := Aside0.mk H
                 clear H
                 go_wp2_with (first | ((with_reducible refine gate_callee (f := 75) rfl ?_); refine goesL_ (some 54) rfl rfl Tryz.func75 zb13 rfl #[.string js35] rfl zb2 ?_; (with_reducible refine (impl_PutHex.calls kj5 js35 t194 _ A36.out).mono ?_); rintro e w41 ⟨rfl, hb⟩; refine ⟨_, rfl, ?_⟩; replace HB := Aside0.mk (below_step zb0 hb); (try clear hb)))
                 go_roundg kj5
                 case measure => have := HK1.out; have := HJ5.out; omega
                 case rel => exact ⟨(js40), (wrap64 (x8_1 + 1)), (by first | rfl | (simp; done) | (simp only [← hjs40] <;> (first | rfl | simp)) | (simp [*]; done)), zb7, H', ⟨by have := HK1.out; have := HJ5.out; omega⟩, ⟨zb0⟩⟩
                ·rw [if_neg c39] at H
                 exact absurd H zb26
               ·rw [if_neg c37] at H
                exact absurd H zb26
              ·rw [if_neg c34] at H
               exact absurd H zb26
             ·rw [if_neg c33] at H
              exact absurd H zb26
            ·rw [if_neg c32] at H
             exact absurd H zb26
           ·rw [if_neg c31] at H
            have c31b0 : decide (127 ≤ (bt a0 x8_1)) = false := decide_eq_false c31
            clear c31
            by_cases c42 : 0 ≤ x8_1
            ·rw [if_pos c42] at H
             have c42b0 := eq_true c42
             have c42b1 : decide (0 ≤ x8_1) = true := decide_eq_true c42
             clear c42
             by_cases c43 : x8_1 ≤ (wrap64 (x8_1 + 1))
             ·rw [if_pos c43] at H
              have c43b0 := eq_true c43
              have c43b1 : decide (x8_1 ≤ (wrap64 (x8_1 + 1))) = true := decide_eq_true c43
              by_cases c44 : (wrap64 (x8_1 + 1)) ≤ (a0.size : Int)
              ·rw [if_pos c44] at H
               have c44b0 := eq_true c44
               have c44b1 : decide ((wrap64 (x8_1 + 1)) ≤ (a0.size : Int)) = true := decide_eq_true c44
               obtain ⟨js45, hjs45⟩ : ∃ j_ : ByteArray, (a0.extract (x8_1 : Int).toNat ((wrap64 (x8_1 + 1)) : Int).toNat) = j_ := ⟨_, rfl⟩
               replace H : (if x3_1.size + (js45).size ≤ 9223372036854775807 then (impl_Quote.l0 kj5 a0 (x3_1 ++ (js45)) (a0.size : Int) (wrap64 (x8_1 + 1))) else (none)) = some r := by first | (rw [hjs45] at H; exact H) | (simp only [hjs45] at H ⊢; exact H)
               by_cases c46 : x3_1.size + (js45).size ≤ 9223372036854775807
               ·rw [if_pos c46] at H
                have c46b0 := eq_true c46
                have c46b1 : decide (x3_1.size + (js45).size ≤ 9223372036854775807) = true := decide_eq_true c46
                try have c46b2 : (9223372036854775807 < x3_1.size + (js45).size) = False := eq_false (Nat.not_lt.2 c46)
                obtain ⟨js47, hjs47⟩ : ∃ j_ : ByteArray, (x3_1 ++ (js45)) = j_ := ⟨_, rfl⟩
                replace H : (impl_Quote.l0 kj5 a0 js47 (a0.size : Int) (wrap64 (x8_1 + 1))) = some r := by first | (rw [hjs47] at H; exact H) | (simp only [hjs47] at H ⊢; exact H)
                have H' := Aside0.mk H
                clear H
                go_wp2
                go_roundg kj5
                case measure => have := HK1.out; have := HJ5.out; omega
                case rel => exact ⟨(js47), (wrap64 (x8_1 + 1)), (by first | rfl | (simp; done) | (simp only [← hjs47] <;> (first | rfl | simp)) | (simp [*]; done)), zb7, H', ⟨by have := HK1.out; have := HJ5.out; omega⟩, ⟨zb0⟩⟩
               ·rw [if_neg c46] at H
                exact absurd H zb26
              ·rw [if_neg c44] at H
               exact absurd H zb26
             ·rw [if_neg c43] at H
              exact absurd H zb26
            ·rw [if_neg c42] at H
             exact absurd H zb26
     ·rw [if_neg c4] at H
      exact absurd H zb26
    ·rw [if_neg c3] at H
     exact absurd H zb26
   ·rw [if_neg c2] at H
    have c2b0 : decide (x8_1 < (a0.size : Int)) = false := decide_eq_false c2
    clear c2
    by_cases c48 : x3_1.size + 1 ≤ 9223372036854775807
    ·rw [if_pos c48] at H
     have c48b0 := eq_true c48
     have c48b1 : decide (x3_1.size + 1 ≤ 9223372036854775807) = true := decide_eq_true c48
     try have c48b2 : (9223372036854775807 < x3_1.size + 1) = False := eq_false (Nat.not_lt.2 c48)
     obtain ⟨js49, hjs49⟩ : ∃ j_ : ByteArray, (x3_1 ++ (⟨#[34]⟩ : ByteArray)) = j_ := ⟨_, rfl⟩
     replace H : (some js49) = some r := by first | (rw [hjs49] at H; exact H) | (simp only [hjs49] at H ⊢; exact H)
     obtain rfl := Option.some.inj H
     go_wp2
     go_ret
     exact ⟨(by first | rfl | (simp [errW_none, errW_some] <;> rfl) | (simp only [← hjs49]; first | rfl | (simp [errW_none, errW_some] <;> rfl)) | (simp [*, errW_none, errW_some] <;> rfl)), zb0⟩
    ·rw [if_neg c48] at H
     exact absurd H zb26
def spec_PutHex.T5 : Bool × List (List Nat × List Nat) := (true, [([], []), ([], []), ([], []), ([1, 2], [1, 2]), ([3], [3]), ([4], [4]), ([], []), ([], []), ([6, 7], [6, 7]), ([8], [8]), ([9], [9]), ([5, 10], [5, 10]), ([0, 11], [0, 11]), ([12, 12, 0, 1, 2, 3, 4, 5, 6, 7, 8, 9, 10, 11, 12], [0, 12])])
def spec_PutHex.B5 : List Nat := [0, 0, 0, 6, 14, 30, 0, 0, 192, 448, 960, 2046, 4095, 8191]
theorem spec_PutHex.tab5 : rtab .any (opsOf Tryz.f86 5) = spec_PutHex.T5 := by kernel_rfl
theorem spec_PutHex.bits5 : waitsOk spec_PutHex.T5.2 spec_PutHex.B5 = true := by kernel_rfl
set_option maxHeartbeats 8000000 in
set_option maxRecDepth 100000 in
theorem spec_PutHex.calls (k : Nat) (a0 : ByteArray) (r : ByteArray) (w : World) (h : spec_PutHex.f k a0 = some r) :
  Calls Tryz.prog 86 #[.string a0] w fun e w' => e = .returned (.string r) ∧ Below w.heap.size w w' := by
 have HB := Aside0.mk (Below.refl w.heap.size w)
 have H : (spec_PutHex.l0 k a0 (([] : List Int)) 0) = some r := h
 clear h
 obtain ⟨y195, hy195⟩ : ∃ y_ : List Int, y_ = (([] : List Int)) := ⟨_, rfl⟩
 replace H : (spec_PutHex.l0 k a0 y195 0) = some r := by first | (rw [hy195]; with_reducible exact H) | (have H2_ := (Option.bind_some _ _).symm.trans H; rw [hy195]; with_reducible exact H2_) | (have H2_ := (Option.bind_some _ _).symm.trans H; with_reducible exact H2_) | with_reducible exact H | (rw [hy195]; exact H) | exact H
 have Ny195 := Aside0.mk hy195
 clear hy195
 have H' := Aside0.mk H
 clear H
 go_enter Tryz.func86, Tryz.ntmps86
 go_wp2_with (first | ((with_reducible refine gate_dst (N := 5) rfl ?_); refine Kd.R_lit (Kd.int .u8) _ 5 ?hg (N := 5) ?hd (xs := ([] : List Int)) (inner := []) (ok := fun _ => True) (okp := fun _ => True) ?hr ?hp (fun _ hk => hk) trivial (Below.refl _ _) (Nat.le_refl _) zb26 ?_; (case hd => rfl); (case hg => rfl); (case hr => exact zb15); (case hp => exact (Reps.none _ _)); intro v196 w2 ho3 hb hg_ hnew_; clear hg_ hnew_; (first | rw [← Ny195.out] at ho3 | (simp only [Int.reduceToNat] at ho3; rw [← Ny195.out] at ho3)); have HO197 := Aside0.mk (Kd.R_lower ho3 (below_size zb0)); replace HB := Aside0.mk (below_step zb0 hb); clear hb ho3))
 go_loopg [3, 4] k (fun kq v3 v4 w' => ∃ (x3_1 : List Int) (x4_1 : Int), v4 = .int .i64 x4_1 ∧ Aside0 (spec_PutHex.l0 kq a0 x3_1 x4_1 = some r) ∧ Aside0 (kq ≤ k) ∧ Aside0 (Kd.R (Kd.int .u8) 5 w' w.heap.size (fun _ => True) v3 x3_1) ∧ Aside0 (Below w.heap.size w w'))
 case atStart => exact ⟨(y195), (0), zb7, H', ⟨Nat.le_refl _⟩, ⟨(zR HO197.out)⟩, ⟨zb0⟩⟩
 case round =>
  clear H'
  try clear p2
  obtain ⟨x3_1, x4_1, rfl, HA, HK1, HO_3, HB⟩ := hrel
  cases gk with
  | zero => exact absurd HA.out (by simp [spec_PutHex.l0])
  | succ k1 =>
   have H := HA.out
   clear HA
   simp only [spec_PutHex.l0] at H
   by_cases c4 : x4_1 < (a0.size : Int)
   ·rw [if_pos c4] at H
    have c4b0 : decide (x4_1 < (a0.size : Int)) = true := decide_eq_true c4
    clear c4
    by_cases c5 : 0 ≤ x4_1
    ·rw [if_pos c5] at H
     have c5b0 : decide (0 ≤ x4_1) = true := decide_eq_true c5
     clear c5
     obtain ⟨ji7, hji7⟩ : ∃ j_ : Int, ((Int.tdiv (bt a0 x4_1) 16) % 256) = j_ := ⟨_, rfl⟩
     replace H : (if 0 ≤ (ji7) then (if (ji7) < 16 then (if 0 ≤ (Int.tmod (bt a0 x4_1) 16) then (if (Int.tmod (bt a0 x4_1) 16) < 16 then ((some (([bt (⟨#[48, 49, 50, 51, 52, 53, 54, 55, 56, 57, 97, 98, 99, 100, 101, 102]⟩ : ByteArray) (ji7), bt (⟨#[48, 49, 50, 51, 52, 53, 54, 55, 56, 57, 97, 98, 99, 100, 101, 102]⟩ : ByteArray) (Int.tmod (bt a0 x4_1) 16)] : List Int) : List Int)).bind fun y198 => (if x3_1.length + y198.length < 140737488355328 then (spec_PutHex.l0 k1 a0 (x3_1 ++ y198) (wrap64 (x4_1 + 1))) else (none))) else (none)) else (none)) else (none)) else (none)) = some r := by first | (rw [hji7] at H; exact H) | (simp only [hji7] at H ⊢; exact H)
     have hji7w : (IntKind.u8.wrap (Int.tdiv (bt a0 x4_1) 16)) = ji7 := hji7
     by_cases c8 : 0 ≤ (ji7)
     ·rw [if_pos c8] at H
      have c8b0 : decide (0 ≤ (ji7)) = true := decide_eq_true c8
      clear c8
      by_cases c9 : (ji7) < 16
      ·rw [if_pos c9] at H
       have c9b0 : decide ((ji7) < 16) = true := decide_eq_true c9
       clear c9
       obtain ⟨ji12, hji12⟩ : ∃ j_ : Int, (Int.tmod (bt a0 x4_1) 16) = j_ := ⟨_, rfl⟩
       replace H : (if 0 ≤ (ji12) then (if (ji12) < 16 then ((some (([bt (⟨#[48, 49, 50, 51, 52, 53, 54, 55, 56, 57, 97, 98, 99, 100, 101, 102]⟩ : ByteArray) (ji7), bt (⟨#[48, 49, 50, 51, 52, 53, 54, 55, 56, 57, 97, 98, 99, 100, 101, 102]⟩ : ByteArray) (ji12)] : List Int) : List Int)).bind fun y198 => (if x3_1.length + y198.length < 140737488355328 then (spec_PutHex.l0 k1 a0 (x3_1 ++ y198) (wrap64 (x4_1 + 1))) else (none))) else (none)) else (none)) = some r := by first | (rw [hji12] at H; exact H) | (simp only [hji12] at H ⊢; exact H)
       by_cases c13 : 0 ≤ (ji12)
       ·rw [if_pos c13] at H
        have c13b0 : decide (0 ≤ (ji12)) = true := decide_eq_true c13
        clear c13
        by_cases c14 : (ji12) < 16
        ·rw [if_pos c14] at H
         have c14b0 : decide ((ji12) < 16) = true := decide_eq_true c14
         clear c14
         obtain ⟨y198, hy198⟩ : ∃ y_ : List Int, y_ = (([bt (⟨#[48, 49, 50, 51, 52, 53, 54, 55, 56, 57, 97, 98, 99, 100, 101, 102]⟩ : ByteArray) (ji7), bt (⟨#[48, 49, 50, 51, 52, 53, 54, 55, 56, 57, 97, 98, 99, 100, 101, 102]⟩ : ByteArray) (ji12)] : List Int)) := ⟨_, rfl⟩
         replace H : (if x3_1.length + y198.length < 140737488355328 then (spec_PutHex.l0 k1 a0 (x3_1 ++ y198) (wrap64 (x4_1 + 1))) else (none)) = some r := by first | (rw [hy198]; with_reducible exact H) | (have H2_ := (Option.bind_some _ _).symm.trans H; rw [hy198]; with_reducible exact H2_) | (have H2_ := (Option.bind_some _ _).symm.trans H; with_reducible exact H2_) | with_reducible exact H | (rw [hy198]; exact H) | exact H
         have Ny198 := Aside0.mk hy198
         clear hy198
         by_cases c16 : x3_1.length + y198.length < 140737488355328
         ·rw [if_pos c16] at H
          have LMc16 := Aside0.mk c16
          clear c16
          obtain ⟨y201, hy201⟩ : ∃ y_ : List Int, y_ = (x3_1 ++ y198) := ⟨_, rfl⟩
          replace H : (spec_PutHex.l0 k1 a0 y201 (wrap64 (x4_1 + 1))) = some r := by first | (rw [hy201]; with_reducible exact H) | (have H2_ := (Option.bind_some _ _).symm.trans H; rw [hy201]; with_reducible exact H2_) | (have H2_ := (Option.bind_some _ _).symm.trans H; with_reducible exact H2_) | with_reducible exact H | (rw [hy201]; exact H) | exact H
          have Ny201 := Aside0.mk hy201
          clear hy201
          have H' := Aside0.mk H
          clear H
          try go_wp2
          replace HO_3 := Aside0.mk (Kd.R_drew HO_3.out)
          replace HB := Aside0.mk (below_drew1 HB.out)
          have p6 : 0 ≤ (x4_1 : Int) := of_decide_eq_true zb5
          have q6 : x4_1 < (a0.size : Int) := of_decide_eq_true zb5
          have hx6 := bt_at a0 x4_1
          replace p6 := eq_true p6
          replace q6 := eq_true q6
          have p10 : 0 ≤ ((ji7) : Int) := of_decide_eq_true zb5
          have q10 : (ji7) < (16 : Int) := of_decide_eq_true zb5
          have hx10 := bt_at (⟨#[48, 49, 50, 51, 52, 53, 54, 55, 56, 57, 97, 98, 99, 100, 101, 102]⟩ : ByteArray) (ji7)
          replace p10 := eq_true p10
          replace q10 := eq_true q10
          have p11 : 0 ≤ (x4_1 : Int) := of_decide_eq_true zb5
          have q11 : x4_1 < (a0.size : Int) := of_decide_eq_true zb5
          have hx11 := bt_at a0 x4_1
          replace p11 := eq_true p11
          replace q11 := eq_true q11
          have p15 : 0 ≤ ((ji12) : Int) := of_decide_eq_true zb5
          have q15 : (ji12) < (16 : Int) := of_decide_eq_true zb5
          have hx15 := bt_at (⟨#[48, 49, 50, 51, 52, 53, 54, 55, 56, 57, 97, 98, 99, 100, 101, 102]⟩ : ByteArray) (ji12)
          replace p15 := eq_true p15
          replace q15 := eq_true q15
          refine start_ (n := 14) (S := fun w' => True) (ds := []) #[false, false, false, false, false, false, false, false, false, false, false, false, false, false] zb13 rfl rfl trivial (fun hHeld => ?_); refine with_tabW spec_PutHex.tab5 spec_PutHex.bits5 (fun HT_ HW_ => ?_)
          generalize wr.drew = w17 at HO_3 HB hHeld ⊢
          refine pz 0 12 ?_
          refine pz 1 13 ?_
          refine pz 2 14 ?_
          refine pz 6 18 ?_
          refine pz 7 19 ?_
          refine take_ (i := 3) (N := some 15) (v := ?_) (a' := ?_) #[true, true, true, true, false, false, true, true, false, false, false, false, false, false] rfl rfl (take_ofW HT_.out HW_.out zb13) (fun _ _ _ h => h) (Or.inl ⟨by rfl, ?_⟩) hHeld ?_ ?_
          rotate_left
          ·intro w' _
           go_simp
           with_reducible rfl
          rotate_left
          ·simp only [Act.put, List.setIfInBounds_toArray, List.set_cons_zero, List.set_cons_succ, i64_w, i32_w]
           rfl
          refine pz 4 16 ?_
          refine take_ (i := 5) (N := some 17) (v := ?_) (a' := ?_) #[true, true, true, true, true, true, true, true, false, false, false, false, false, false] rfl rfl (take_ofW HT_.out HW_.out zb13) (fun _ _ _ h => h) (Or.inl ⟨by rfl, ?_⟩) hHeld ?_ ?_
          rotate_left
          ·intro w' _
           go_simp
           with_reducible rfl
          rotate_left
          ·simp only [Act.put, List.setIfInBounds_toArray, List.set_cons_zero, List.set_cons_succ, i64_w, i32_w]
           rfl
          refine take_ (i := 8) (N := some 20) (v := ?_) (a' := ?_) #[true, true, true, true, true, true, true, true, true, false, false, false, false, false] rfl rfl (take_ofW HT_.out HW_.out zb13) (fun _ _ _ h => h) (Or.inl ⟨by rfl, ?_⟩) hHeld ?_ ?_
          rotate_left
          ·intro w' _
           go_simp
           with_reducible rfl
          rotate_left
          ·simp only [Act.put, List.setIfInBounds_toArray, List.set_cons_zero, List.set_cons_succ, i64_w, i32_w]
           rfl
          refine pz 9 21 ?_
          refine take_ (i := 10) (N := some 22) (v := ?_) (a' := ?_) #[true, true, true, true, true, true, true, true, true, true, true, false, false, false] rfl rfl (take_ofW HT_.out HW_.out zb13) (fun _ _ _ h => h) (Or.inl ⟨by rfl, ?_⟩) hHeld ?_ ?_
          rotate_left
          ·intro w' _
           go_simp
           with_reducible rfl
          rotate_left
          ·simp only [Act.put, List.setIfInBounds_toArray, List.set_cons_zero, List.set_cons_succ, i64_w, i32_w]
           rfl
          refine one_ (i := 11) (N := some 23) #[true, true, true, true, true, true, true, true, true, true, true, true, false, false] rfl rfl (one_of HT_.out zb13) zb33 (fun K hK => ?_)
          refine Kd.R_lit_step (Kd.int .u8) _ 5 ?hg (N := 23) ?hd (xs := ([bt (⟨#[48, 49, 50, 51, 52, 53, 54, 55, 56, 57, 97, 98, 99, 100, 101, 102]⟩ : ByteArray) (ji7), bt (⟨#[48, 49, 50, 51, 52, 53, 54, 55, 56, 57, 97, 98, 99, 100, 101, 102]⟩ : ByteArray) (ji12)] : List Int)) (inner := [.int .u8 (bt (⟨#[48, 49, 50, 51, 52, 53, 54, 55, 56, 57, 97, 98, 99, 100, 101, 102]⟩ : ByteArray) (ji7)), .int .u8 (bt (⟨#[48, 49, 50, 51, 52, 53, 54, 55, 56, 57, 97, 98, 99, 100, 101, 102]⟩ : ByteArray) (ji12))]) (ok := fun _ => True) (okp := fun _ => True) ?hr ?hp (fun _ hk => hk) trivial (Below.refl _ _) (Nat.le_refl _) zb26 ?_; (case hd => rfl); (case hg => rfl); (case hr => exact zb15); (case hp => exact zb29)
          intro v199 w18 ho19 hb hg_ hnew_
          clear hg_ hnew_
          (first | rw [← Ny198.out] at ho19 | (simp only [Int.reduceToNat] at ho19; rw [← Ny198.out] at ho19))
          have HO200 := Aside0.mk (Kd.R_lower (Kd.R_new' ho19 (Kd.R_lt (zR HO_3.out))) (below_size zb0))
          replace HO_3 := Aside0.mk (Kd.R_elder' (zR HO_3.out) (Kd.R_base ho19) hb)
          replace HB := Aside0.mk (below_step zb0 hb)
          clear hb ho19
          obtain ⟨Ao21, co21, eo21⟩ := Kd.R_slice HO200.out
          (first | subst eo21 | (injection eo21 with f1_ f2_ f3_; have f4_ := f1_.symm; have f5_ := f3_.symm; clear f1_ f2_ f3_; subst f4_; subst f5_))
          refine hK.out _ _ trivial (fun hHeld => ?_)
          clear hK K
          refine norm_ (a' := ?_) ?_ ?_
          rotate_left
          ·show Act.put _ (some 23) _ = _
           simp only [Act.put, List.setIfInBounds_toArray, List.set_cons_zero, List.set_cons_succ, i64_w, i32_w]
           rfl
          refine one_ (i := 12) (N := some 24) #[true, true, true, true, true, true, true, true, true, true, true, true, true, false] rfl rfl (one_of HT_.out zb13) zb33 (fun K hK => ?_)
          refine Kd.R_append_rows_step (Kd.int .u8) (w0 := w) w.heap.size (by rfl) (.tmp 12) (.tmp 23) 22 5 (.int .u8 0) 1 rfl Tryz.underlying22 info5 rfl zb33 zb40 u3 x3_1 y198 _ _ _ (fun k_ => some k_ ≠ (.slice Ao21 y198.length co21 : Value).ownBlock) (fun _ => False) rfl rfl ?aO ?aR (fun _ _ h => h) (fun _ h => h.elim) ?aF ?aB ?aS ?aL ?_
          (case aR => repeat (first | exact (Kd.R_reads' HO200.out).2.2 | (with_reducible refine Kd.C_alloc ?_ _) | (with_reducible refine Kd.C_drewN ?_ _) | (with_reducible refine Kd.C_drew ?_)))
          (case aB => exact zb0)
          (case aF => exact (fun k_ hk => Kd.fresh' (Kd.R_lt (zR HO200.out)) k_ hk))
          (case aO => exact (zR (Kd.R_mono HO_3.out (fun _ hk => hk.2))))
          (case aS => exact (below_size zb0))
          (case aL => exact zb47)
          intro v202 w20 ho hb hg hat
          rw [← Ny201.out] at ho
          replace HO200 := Aside0.mk (Kd.R_after (ok := (fun _ => True)) (zR HO200.out) hg hat)
          replace HB := Aside0.mk hb
          have HO203 := Aside0.mk ho
          clear HO_3 ho hb hg hat
          refine hK.out _ _ trivial (fun hHeld => ?_)
          clear hK K
          refine norm_ (a' := ?_) ?_ ?_
          rotate_left
          ·show Act.put _ (some 24) _ = _
           simp only [Act.put, List.setIfInBounds_toArray, List.set_cons_zero, List.set_cons_succ, i64_w, i32_w]
           rfl
          refine pz 13 3 ?_
          refine done_ (done_of HT_.out zb13) ?_
          try go_wp2
          go_roundg k1
          case measure => have := HK1.out; omega
          case rel => exact ⟨(y201), (wrap64 (x4_1 + 1)), zb7, H', ⟨by have := HK1.out; omega⟩, ⟨(zR (Kd.R_mono HO203.out (fun _ hk => trivial)))⟩, ⟨zb0⟩⟩
         ·rw [if_neg c16] at H
          exact absurd H zb26
        ·rw [if_neg c14] at H
         exact absurd H zb26
       ·rw [if_neg c13] at H
        exact absurd H zb26
      ·rw [if_neg c9] at H
       exact absurd H zb26
     ·rw [if_neg c8] at H
      exact absurd H zb26
    ·rw [if_neg c5] at H
     exact absurd H zb26
   ·rw [if_neg c4] at H
    have c4b0 : decide (x4_1 < (a0.size : Int)) = false := decide_eq_false c4
    clear c4
    obtain rfl := Option.some.inj H
    have hcv22 := own_string (P := Tryz.prog) Tryz.underlying22 Tryz.underlying5 Tryz.underlying9 (Kd.own_of_R HO_3.out)
    have hcvd23 := fun n_ : Nat => own_string (P := Tryz.prog) Tryz.underlying22 Tryz.underlying5 Tryz.underlying9 (Kd.own_of_R (Kd.R_drewN HO_3.out n_))
    go_wp2
    go_ret
    exact ⟨zb8, zb0⟩
end Go.Proofs.YtbfbomcfmgdpkaaGreatDoor.G

end
