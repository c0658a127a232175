/- A part of the proof that the law FnPick answers true at every input that its row speaks of. Conditions: the row's own. -/
import Derived.Test.YtoidompkofomjaaGreatDoorKFnPick0
import Derived.Test.YtoidompkofomjaaGreatDoorOpZ
section
namespace Go.Proofs.YtoidompkofomjaaGreatDoor.G
open Go.RowKit Go.Proofs.YtoidompkofomjaaGreatDoorW.PrintWords Go.Proofs.YtoidompkofomjaaGreatDoorW.PrintLast Go.Proofs.YtoidompkofomjaaGreatDoorW.PrintMore
attribute [local go_sem] max2_int min2_int max_two min_two max_three min_three max_four min_four
attribute [local go_sem high] Go.Proofs.YtoidompkofomjaaGreatDoor.G.str_gtr Go.Proofs.YtoidompkofomjaaGreatDoor.G.str_leq Go.Proofs.YtoidompkofomjaaGreatDoor.G.str_geq
set_option linter.unusedVariables false
set_option linter.unusedSimpArgs false
def laws_big.f (l0 : List Int) : Option (Bool) := some (decide ((l0.length : Int) > 1048576))
def laws_sameTexts.l0 : Nat → List ByteArray → List ByteArray → Int → Option (Bool)
 | 0, _, _, _ => none
 | k + 1, x0, x1, x5 => if x5 < (x0.length : Int) then (if 0 ≤ x5 then (if x5 < (x1.length : Int) then (if (rdOf ByteArray.empty x0 x5).toList = (rdOf ByteArray.empty x1 x5).toList then (laws_sameTexts.l0 k x0 x1 (wrap64 (x5 + 1))) else (some false)) else (none)) else (none)) else (some true)
def laws_sameTexts.f (k : Nat) (l0 : List ByteArray) (l1 : List ByteArray) : Option (Bool) := if (l0.length : Int) = (l1.length : Int) then (laws_sameTexts.l0 k l0 l1 0) else (some false)
def laws_has.l0 : Nat → List ByteArray → ByteArray → Int → Option (Bool)
 | 0, _, _, _ => none
 | k + 1, x0, x1, x5 => if x5 < (x0.length : Int) then (if 0 ≤ x5 then (if (rdOf ByteArray.empty x0 x5).toList = x1.toList then (some true) else (laws_has.l0 k x0 x1 (wrap64 (x5 + 1)))) else (none)) else (some false)
def laws_has.f (k : Nat) (l0 : List ByteArray) (a1 : ByteArray) : Option (Bool) := laws_has.l0 k l0 a1 0
set_option maxHeartbeats 8000000 in
set_option maxRecDepth 100000 in
theorem spec_l01New.calls (k : Nat) (A0 : Option Addr) (c0 : Nat) (l0 : List Int) (r1 : List Int) (r2 : Int) (r3 : Int) (w0 w : World) (hB : Below w0.heap.size w0 w) (hr0 : Kd.C (Kd.int .u8) w0 A0 l0.length l0) (hc0 : l0.length ≤ c0) (h : spec_l01New.f k l0 = some (r1, r2, r3)) :
  Calls Tryz.prog 16 #[.slice A0 l0.length c0] w fun e w' => ∃ g_ : Nat, e = .returned (.pointer (some ⟨g_, 0, none⟩)) ∧ IsS55 w0 w' g_ r1 r2 r3 ∧ Below w0.heap.size w0 w' ∧ Below w.heap.size w w' := by
 have hu55 := Tryz.underlying55
 have HR0 := Aside0.mk hr0
 have HC0 := Aside0.mk hc0
 clear hr0 hc0
 have HBW := Aside0.mk (Below.refl w.heap.size w)
 have HW0 := Aside0.mk hB.size
 have HB := Aside0.mk hB
 clear hB
 have H : (spec_l01New.l0 k l0 (wrap64 (445445 + (l0.length : Int))) 0) = some (r1, r2, r3) := h
 clear h
 have H' := Aside0.mk H
 clear H
 go_enter Tryz.func16, Tryz.ntmps16
 go_wp2
 go_loopg [3, 4] k (fun kq v3 v4 w' => ∃ (x3_1 : Int) (x4_1 : Int), v3 = .int .i64 x3_1 ∧ v4 = .int .i64 x4_1 ∧ Aside0 (spec_l01New.l0 kq l0 x3_1 x4_1 = some (r1, r2, r3)) ∧ Aside0 (kq ≤ k) ∧ Aside0 (Below w0.heap.size w0 w') ∧ Aside0 (Below w.heap.size w w'))
 case atStart => exact ⟨(wrap64 (445445 + (l0.length : Int))), (0), zb10, zb10, H', ⟨Nat.le_refl _⟩, ⟨zb7⟩, ⟨zb27⟩⟩
 case round =>
  clear H'
  try clear c1
  obtain ⟨x3_1, x4_1, rfl, rfl, HA, HK1, HB, HBW⟩ := hrel
  cases gk with
  | zero => exact absurd HA.out (by simp [spec_l01New.l0])
  | succ k1 =>
   have H := HA.out
   clear HA
   simp only [spec_l01New.l0] at H
   by_cases c2 : x4_1 < (l0.length : Int)
   ·rw [if_pos c2] at H
    have c2b0 : decide (x4_1 < (l0.length : Int)) = true := decide_eq_true c2
    clear c2
    by_cases c3 : x4_1 < 4000
    ·rw [if_pos c3] at H
     have c3b0 : decide (x4_1 < 4000) = true := decide_eq_true c3
     clear c3
     by_cases c4 : 0 ≤ x4_1
     ·rw [if_pos c4] at H
      have c4b0 : decide (0 ≤ x4_1) = true := decide_eq_true c4
      clear c4
      have H' := Aside0.mk H
      clear H
      have p101 : 0 ≤ (x4_1 : Int) := of_decide_eq_true zb19
      have q101 : x4_1 < (l0.length : Int) := of_decide_eq_true zb19
      obtain ⟨ad101, e101, hx101_0⟩ := Kd.at_int HR0.out x4_1 p101 q101
      cases e101
      replace hx101_0 := pw_cell_below HB.out hx101_0
      replace p101 := eq_true p101
      replace q101 := eq_true q101
      go_wp2
      go_roundg k1
      case measure => have := HK1.out; omega
      case rel => exact ⟨(Go.bits .and .i64 (wrap64 ((wrap64 ((wrap64 (x3_1 * 131)) + (wrap64 (rd l0 x4_1)))) + 7)) 1073741823), (wrap64 (x4_1 + 1)), zb10, zb10, H', ⟨by have := HK1.out; omega⟩, ⟨zb7⟩, ⟨zb27⟩⟩
     ·rw [if_neg c4] at H
      exact absurd H zb26
    ·rw [if_neg c3] at H
     have c3b0 : decide (x4_1 < 4000) = false := decide_eq_false c3
     clear c3
     simp only [Option.some.injEq, Prod.mk.injEq] at H
     obtain ⟨rfl, rfl, rfl⟩ := H
     go_wp2
     go_ret
     exact ⟨_, rfl, (show IsS55 w0 _ _ l0 0 x3_1 from ⟨_, _, heap_alloc_new _ _, below_size zb7, HR0.out⟩), zb7, zb27⟩
   ·rw [if_neg c2] at H
    have c2b0 : decide (x4_1 < (l0.length : Int)) = false := decide_eq_false c2
    clear c2
    simp only [Option.some.injEq, Prod.mk.injEq] at H
    obtain ⟨rfl, rfl, rfl⟩ := H
    go_wp2
    go_ret
    exact ⟨_, rfl, (show IsS55 w0 _ _ l0 0 x3_1 from ⟨_, _, heap_alloc_new _ _, below_size zb7, HR0.out⟩), zb7, zb27⟩
set_option maxHeartbeats 8000000 in
set_option maxRecDepth 100000 in
theorem spec_l01Byte.calls (g : Nat) (s0_0 : List Int) (s0_1 : Int) (s0_2 : Int) (r1 : Int) (r2 : Int) (r3 : Int) (w0 w : World) (hI : IsS55 w0 w g s0_0 s0_1 s0_2) (hB : Below w0.heap.size w0 w) (h : spec_l01Byte.f s0_0 s0_1 s0_2 = some (r1, r2, r3)) :
  Calls Tryz.prog 54 #[.pointer (some ⟨g, 0, none⟩)] w fun e w' => e = .returned (.int .i64 r1) ∧ IsS55 w0 w' g s0_0 r2 r3 ∧ Below w0.heap.size w0 w' ∧ KeepBut w w' g none := by
 have HI0 := Aside0.mk hI
 have HK := Aside0.mk (KeepBut.refl w g none)
 have HL := Aside0.mk hB.size
 clear hI
 have HW0 := Aside0.mk hB.size
 have HB := Aside0.mk hB
 clear hB
 have H : (if s0_1 < (s0_0.length : Int) then (if 0 ≤ s0_1 then (some (Go.bits .and .i64 (wrap64 ((Go.bits .and .i64 (Go.bits .xor .i64 ((wrap64 ((wrap64 (s0_2 * 6364136223846793005)) + 1442695040888963407)) / 8589934592) ((wrap64 ((wrap64 (s0_2 * 6364136223846793005)) + 1442695040888963407)) / 35184372088832)) 255) + (wrap64 (rd s0_0 s0_1)))) 255, wrap64 (s0_1 + 1), wrap64 ((wrap64 (s0_2 * 6364136223846793005)) + 1442695040888963407))) else (none)) else (some (Go.bits .and .i64 (Go.bits .xor .i64 ((wrap64 ((wrap64 (s0_2 * 6364136223846793005)) + 1442695040888963407)) / 8589934592) ((wrap64 ((wrap64 (s0_2 * 6364136223846793005)) + 1442695040888963407)) / 35184372088832)) 255, s0_1, wrap64 ((wrap64 (s0_2 * 6364136223846793005)) + 1442695040888963407)))) = some (r1, r2, r3) := h
 clear h
 by_cases c2 : s0_1 < (s0_0.length : Int)
 ·rw [if_pos c2] at H
  have c2b0 : decide (s0_1 < (s0_0.length : Int)) = true := decide_eq_true c2
  clear c2
  by_cases c3 : 0 ≤ s0_1
  ·rw [if_pos c3] at H
   have c3b0 : decide (0 ≤ s0_1) = true := decide_eq_true c3
   clear c3
   simp only [Option.some.injEq, Prod.mk.injEq] at H
   obtain ⟨rfl, rfl, rfl⟩ := H
   obtain ⟨ASz4_0, cSz4_0, HGz4, hgz4, HSz4_0⟩ := HI0.out
   have hcz4_0 := cellS55_0 HGz4
   have hcz4_1 := cellS55_1 HGz4
   have hcz4_2 := cellS55_2 HGz4
   have hfz4_1 := blk_frozen HGz4 1
   have hfz4_2 := blk_frozen HGz4 2
   clear HGz4 hgz4
   have p104 : 0 ≤ (s0_1 : Int) := of_decide_eq_true zb19
   have q104 : s0_1 < (s0_0.length : Int) := of_decide_eq_true zb19
   obtain ⟨ad104, e104, hx104_0⟩ := Kd.at_int HSz4_0 s0_1 p104 q104
   cases e104
   have hn104_0 : ad104.block ≠ g := Nat.ne_of_lt (Nat.lt_of_lt_of_le (by have := World.block_lt_of_cell? _ _ hx104_0; first | rwa [add_block] at this | exact this) (IsS55.ge HI0.out))
   replace hx104_0 := pw_cell_below HB.out hx104_0
   replace hx104_0 := (cell_far (p := ⟨g, 2, none⟩) (by first | (rw [add_block]; exact hn104_0) | (show (Addr.add _ _).block ≠ _; rw [add_block]; exact hn104_0) | exact hn104_0) (.int .i64 (wrap64 ((wrap64 (s0_2 * 6364136223846793005)) + 1442695040888963407)))).trans hx104_0
   (try have hy104_0 := fun (n_ : Nat) => (show (((w.drewN n_).setCell ⟨g, 2, none⟩ (.int .i64 (wrap64 ((wrap64 (s0_2 * 6364136223846793005)) + 1442695040888963407))))).cell? _ = some _ from hx104_0))
   clear hn104_0
   replace p104 := eq_true p104
   replace q104 := eq_true q104
   go_enter Tryz.func54, Tryz.ntmps54
   go_wp2
   repeat (go_quiet (fail); try go_wp2)
   go_ret
   exact ⟨zb9, zb1, zb2, zb3⟩
  ·rw [if_neg c3] at H
   exact absurd H zb26
 ·rw [if_neg c2] at H
  have c2b0 : decide (s0_1 < (s0_0.length : Int)) = false := decide_eq_false c2
  clear c2
  simp only [Option.some.injEq, Prod.mk.injEq] at H
  obtain ⟨rfl, rfl, rfl⟩ := H
  obtain ⟨ASz5_0, cSz5_0, HGz5, hgz5, HSz5_0⟩ := HI0.out
  have hcz5_0 := cellS55_0 HGz5
  have hcz5_1 := cellS55_1 HGz5
  have hcz5_2 := cellS55_2 HGz5
  have hfz5_1 := blk_frozen HGz5 1
  have hfz5_2 := blk_frozen HGz5 2
  clear HGz5 hgz5
  go_enter Tryz.func54, Tryz.ntmps54
  go_wp2
  repeat (go_quiet (fail); try go_wp2)
  go_ret
  exact ⟨zb9, zb1, zb2, zb3⟩
set_option maxHeartbeats 8000000 in
set_option maxRecDepth 100000 in
theorem spec_l01Below.calls (g : Nat) (s0_0 : List Int) (s0_1 : Int) (s0_2 : Int) (a1 : Int) (r1 : Int) (r2 : Int) (r3 : Int) (w0 w : World) (hI : IsS55 w0 w g s0_0 s0_1 s0_2) (hB : Below w0.heap.size w0 w) (h : spec_l01Below.f s0_0 s0_1 s0_2 a1 = some (r1, r2, r3)) :
  Calls Tryz.prog 30 #[.pointer (some ⟨g, 0, none⟩), .int .i64 a1] w fun e w' => e = .returned (.int .i64 r1) ∧ IsS55 w0 w' g s0_0 r2 r3 ∧ Below w0.heap.size w0 w' ∧ KeepBut w w' g none := by
 have HI0 := Aside0.mk hI
 have HK := Aside0.mk (KeepBut.refl w g none)
 have HL := Aside0.mk hB.size
 clear hI
 have HW0 := Aside0.mk hB.size
 have HB := Aside0.mk hB
 clear hB
 have H : (if a1 ≤ 0 then (some (0, s0_1, s0_2)) else (if a1 ≤ 256 then ((spec_l01Byte.f s0_0 s0_1 s0_2).bind fun bt105 => (if a1 = 0 then (none) else (some (Int.tmod bt105.1 a1, bt105.2.1, bt105.2.2)))) else ((spec_l01Byte.f s0_0 s0_1 s0_2).bind fun bt108 => ((spec_l01Byte.f s0_0 bt108.2.1 bt108.2.2).bind fun bt111 => ((spec_l01Byte.f s0_0 bt111.2.1 bt111.2.2).bind fun bt114 => ((spec_l01Byte.f s0_0 bt114.2.1 bt114.2.2).bind fun bt117 => (if a1 = 0 then (none) else (some (Int.tmod (wrap64 ((wrap64 ((wrap64 ((wrap64 (bt108.1 * 16777216)) + (wrap64 (bt111.1 * 65536)))) + (wrap64 (bt114.1 * 256)))) + bt117.1)) a1, bt117.2.1, bt117.2.2))))))))) = some (r1, r2, r3) := h
 clear h
 by_cases c3 : a1 ≤ 0
 ·rw [if_pos c3] at H
  have c3b0 : decide (a1 ≤ 0) = true := decide_eq_true c3
  clear c3
  simp only [Option.some.injEq, Prod.mk.injEq] at H
  obtain ⟨rfl, rfl, rfl⟩ := H
  go_enter Tryz.func30, Tryz.ntmps30
  go_wp2
  go_ret
  exact ⟨zb9, zb1, zb2, zb3⟩
 ·rw [if_neg c3] at H
  have c3b0 : decide (a1 ≤ 0) = false := decide_eq_false c3
  clear c3
  by_cases c4 : a1 ≤ 256
  ·rw [if_pos c4] at H
   have c4b0 : decide (a1 ≤ 256) = true := decide_eq_true c4
   clear c4
   replace H := Option.bind_eq_some_iff.mp H
   obtain ⟨⟨t105, t106, t107⟩, A50, H⟩ := H
   try dsimp only at H
   have A5 := Aside0.mk A50
   clear A50
   by_cases c6 : a1 = 0
   ·rw [if_pos c6] at H
    exact absurd H zb26
   ·rw [if_neg c6] at H
    have c6b0 : (a1 == 0) = false := beq_eq_false_iff_ne.mpr c6
    have c6b1 : (a1 != 0) = true := bne_iff_ne.mpr c6
    simp only [Option.some.injEq, Prod.mk.injEq] at H
    obtain ⟨rfl, rfl, rfl⟩ := H
    go_enter Tryz.func30, Tryz.ntmps30
    go_wp2_with (first | ((with_reducible refine gate_callee (f := 54) rfl ?_); refine goesL_ (some 14) rfl rfl Tryz.func54 zb17 rfl #[.pointer (some ⟨g, 0, none⟩)] rfl zb4 ?_; (with_reducible refine (spec_l01Byte.calls g s0_0 s0_1 s0_2 t105 t106 t107 w0 _ ?side1 ?side2 A5.out).mono ?_); (case side1 => exact zb1); (case side2 => exact zb2); rintro e w7 ⟨rfl, hi, hb, hk⟩; refine ⟨_, rfl, ?_⟩; replace HK := Aside0.mk (KeepBut.trans zb3 hk (.inl rfl)); replace HB := Aside0.mk hb; replace HI0 := Aside0.mk hi; (try clear hb)))
    go_ret
    exact ⟨zb9, zb1, zb2, zb3⟩
  ·rw [if_neg c4] at H
   have c4b0 : decide (a1 ≤ 256) = false := decide_eq_false c4
   clear c4
   replace H := Option.bind_eq_some_iff.mp H
   obtain ⟨⟨t108, t109, t110⟩, A80, H⟩ := H
   try dsimp only at H
   have A8 := Aside0.mk A80
   clear A80
   replace H := Option.bind_eq_some_iff.mp H
   obtain ⟨⟨t111, t112, t113⟩, A90, H⟩ := H
   try dsimp only at H
   have A9 := Aside0.mk A90
   clear A90
   replace H := Option.bind_eq_some_iff.mp H
   obtain ⟨⟨t114, t115, t116⟩, A100, H⟩ := H
   try dsimp only at H
   have A10 := Aside0.mk A100
   clear A100
   replace H := Option.bind_eq_some_iff.mp H
   obtain ⟨⟨t117, t118, t119⟩, A110, H⟩ := H
   try dsimp only at H
   have A11 := Aside0.mk A110
   clear A110
   by_cases c12 : a1 = 0
   ·rw [if_pos c12] at H
    exact absurd H zb26
   ·rw [if_neg c12] at H
    have c12b0 : (a1 == 0) = false := beq_eq_false_iff_ne.mpr c12
    have c12b1 : (a1 != 0) = true := bne_iff_ne.mpr c12
    simp only [Option.some.injEq, Prod.mk.injEq] at H
    obtain ⟨rfl, rfl, rfl⟩ := H
    go_enter Tryz.func30, Tryz.ntmps30
    go_wp2_with (first | ((with_reducible refine gate_callee (f := 54) rfl ?_); refine goesL_ (some 18) rfl rfl Tryz.func54 zb17 rfl #[.pointer (some ⟨g, 0, none⟩)] rfl zb4 ?_; (with_reducible refine (spec_l01Byte.calls g s0_0 s0_1 s0_2 t108 t109 t110 w0 _ ?side1 ?side2 A8.out).mono ?_); (case side1 => exact zb1); (case side2 => exact zb2); rintro e w13 ⟨rfl, hi, hb, hk⟩; refine ⟨_, rfl, ?_⟩; replace HK := Aside0.mk (KeepBut.trans zb3 hk (.inl rfl)); replace HB := Aside0.mk hb; replace HI0 := Aside0.mk hi; (try clear hb)) | ((with_reducible refine gate_callee (f := 54) rfl ?_); refine goesL_ (some 20) rfl rfl Tryz.func54 zb17 rfl #[.pointer (some ⟨g, 0, none⟩)] rfl zb4 ?_; (with_reducible refine (spec_l01Byte.calls g s0_0 t109 t110 t111 t112 t113 w0 _ ?side1 ?side2 A9.out).mono ?_); (case side1 => exact zb1); (case side2 => exact zb2); rintro e w14 ⟨rfl, hi, hb, hk⟩; refine ⟨_, rfl, ?_⟩; replace HK := Aside0.mk (KeepBut.trans zb3 hk (.inl rfl)); replace HB := Aside0.mk hb; replace HI0 := Aside0.mk hi; (try clear hb)) | ((with_reducible refine gate_callee (f := 54) rfl ?_); refine goesL_ (some 22) rfl rfl Tryz.func54 zb17 rfl #[.pointer (some ⟨g, 0, none⟩)] rfl zb4 ?_; (with_reducible refine (spec_l01Byte.calls g s0_0 t112 t113 t114 t115 t116 w0 _ ?side1 ?side2 A10.out).mono ?_); (case side1 => exact zb1); (case side2 => exact zb2); rintro e w15 ⟨rfl, hi, hb, hk⟩; refine ⟨_, rfl, ?_⟩; replace HK := Aside0.mk (KeepBut.trans zb3 hk (.inl rfl)); replace HB := Aside0.mk hb; replace HI0 := Aside0.mk hi; (try clear hb)) | ((with_reducible refine gate_callee (f := 54) rfl ?_); refine goesL_ (some 24) rfl rfl Tryz.func54 zb17 rfl #[.pointer (some ⟨g, 0, none⟩)] rfl zb4 ?_; (with_reducible refine (spec_l01Byte.calls g s0_0 t115 t116 t117 t118 t119 w0 _ ?side1 ?side2 A11.out).mono ?_); (case side1 => exact zb1); (case side2 => exact zb2); rintro e w16 ⟨rfl, hi, hb, hk⟩; refine ⟨_, rfl, ?_⟩; replace HK := Aside0.mk (KeepBut.trans zb3 hk (.inl rfl)); replace HB := Aside0.mk hb; replace HI0 := Aside0.mk hi; (try clear hb)))
    go_ret
    exact ⟨zb9, zb1, zb2, zb3⟩
set_option maxHeartbeats 8000000 in
set_option maxRecDepth 100000 in
theorem spec_l01Pick.calls (g : Nat) (s0_0 : List Int) (s0_1 : Int) (s0_2 : Int) (A1 : Option Addr) (c1 : Nat) (l1 : List ByteArray) (r1 : ByteArray) (r2 : Int) (r3 : Int) (w0 w : World) (hI : IsS55 w0 w g s0_0 s0_1 s0_2) (hB : Below w0.heap.size w0 w) (hr1 : Kd.C Kd.string w A1 l1.length l1) (hc1 : l1.length ≤ c1) (hf1 : ∀ ad, A1 = some ad → 0 < l1.length → ad.block ≠ g) (h : spec_l01Pick.f s0_0 s0_1 s0_2 l1 = some (r1, r2, r3)) :
  Calls Tryz.prog 36 #[.pointer (some ⟨g, 0, none⟩), .slice A1 l1.length c1] w fun e w' => e = .returned (.string r1) ∧ IsS55 w0 w' g s0_0 r2 r3 ∧ Below w0.heap.size w0 w' ∧ KeepBut w w' g none := by
 have HR1 := Aside0.mk hr1
 have HC1 := Aside0.mk hc1
 clear hr1 hc1
 have HI0 := Aside0.mk hI
 have HK := Aside0.mk (KeepBut.refl w g none)
 have HL := Aside0.mk hB.size
 clear hI
 have HW0 := Aside0.mk hB.size
 have HB := Aside0.mk hB
 clear hB
 have H : ((spec_l01Below.f s0_0 s0_1 s0_2 (l1.length : Int)).bind fun bt120 => (if 0 ≤ bt120.1 then (if bt120.1 < (l1.length : Int) then (some (rdOf ByteArray.empty l1 bt120.1, bt120.2.1, bt120.2.2)) else (none)) else (none))) = some (r1, r2, r3) := h
 clear h
 replace H := Option.bind_eq_some_iff.mp H
 obtain ⟨⟨t120, t121, t122⟩, A30, H⟩ := H
 try dsimp only at H
 have A3 := Aside0.mk A30
 clear A30
 by_cases c4 : 0 ≤ t120
 ·rw [if_pos c4] at H
  have c4b0 : decide (0 ≤ t120) = true := decide_eq_true c4
  clear c4
  by_cases c5 : t120 < (l1.length : Int)
  ·rw [if_pos c5] at H
   have c5b0 : decide (t120 < (l1.length : Int)) = true := decide_eq_true c5
   clear c5
   simp only [Option.some.injEq, Prod.mk.injEq] at H
   obtain ⟨rfl, rfl, rfl⟩ := H
   go_enter Tryz.func36, Tryz.ntmps36
   go_wp2_with (first | ((with_reducible refine gate_callee (f := 30) rfl ?_); refine goesL_ (some 9) rfl rfl Tryz.func30 zb17 rfl #[.pointer (some ⟨g, 0, none⟩), .int .i64 (l1.length : Int)] rfl zb4 ?_; (with_reducible refine (spec_l01Below.calls g s0_0 s0_1 s0_2 (l1.length : Int) t120 t121 t122 w0 _ ?side1 ?side2 A3.out).mono ?_); (case side1 => exact zb1); (case side2 => exact zb2); rintro e w6 ⟨rfl, hi, hb, hk⟩; refine ⟨_, rfl, ?_⟩; replace HK := Aside0.mk (KeepBut.trans zb3 hk (.inl rfl)); replace HB := Aside0.mk hb; replace HI0 := Aside0.mk hi; (try clear hb); have p123 : 0 ≤ (t120 : Int) := of_decide_eq_true zb19; have q123 : t120 < (l1.length : Int) := of_decide_eq_true zb19; obtain ⟨ad123, e123, hx123_0⟩ := Kd.at_string HR1.out t120 p123 q123; cases e123; replace hx123_0 := keep_cell HK.out hx123_0 (by first | (rw [add_block]; exact hf1 _ rfl zb35) | exact hf1 _ rfl zb35 | exact hf1 ad123 rfl zb35); replace p123 := eq_true p123; replace q123 := eq_true q123))
   go_ret
   exact ⟨zb9, zb1, zb2, zb3⟩
  ·rw [if_neg c5] at H
   exact absurd H zb26
 ·rw [if_neg c4] at H
  exact absurd H zb26
def spec_l01Bent.T6 : Bool × List (List Nat × List Nat) := (true, [([], []), ([], []), ([0, 1], [0, 1]), ([], []), ([], []), ([3, 4], [3, 4]), ([2, 5], [2, 5]), ([], []), ([], []), ([7, 8], [7, 8]), ([6, 9], [6, 9]), ([10, 5, 0, 1, 2, 3, 4, 5, 6, 7, 8, 9, 10], [10])])
def spec_l01Bent.B6 : List Nat := [0, 0, 3, 0, 0, 24, 63, 0, 0, 384, 1023, 2047]
theorem spec_l01Bent.tab6 : rtab .any (opsOf Tryz.f31 6) = spec_l01Bent.T6 := by kernel_rfl
theorem spec_l01Bent.bits6 : waitsOk spec_l01Bent.T6.2 spec_l01Bent.B6 = true := by kernel_rfl
def spec_l01Bent.T9 : Bool × List (List Nat × List Nat) := (true, [([], []), ([], []), ([0, 1], [0, 1]), ([], []), ([], []), ([3, 4], [3, 4]), ([2, 5], [2, 5]), ([], []), ([], []), ([8], [8]), ([7, 9], [7, 9]), ([6, 10], [6, 10]), ([11, 5, 0, 1, 2, 3, 4, 5, 6, 7, 8, 9, 10, 11], [11])])
def spec_l01Bent.B9 : List Nat := [0, 0, 3, 0, 0, 24, 63, 0, 0, 256, 896, 2047, 4095]
theorem spec_l01Bent.tab9 : rtab .any (opsOf Tryz.f31 9) = spec_l01Bent.T9 := by kernel_rfl
theorem spec_l01Bent.bits9 : waitsOk spec_l01Bent.T9.2 spec_l01Bent.B9 = true := by kernel_rfl
set_option maxHeartbeats 8000000 in
set_option maxRecDepth 100000 in
theorem spec_l01Bent.calls (g : Nat) (s0_0 : List Int) (s0_1 : Int) (s0_2 : Int) (a1 : ByteArray) (r1 : ByteArray) (r2 : Int) (r3 : Int) (w0 w : World) (hI : IsS55 w0 w g s0_0 s0_1 s0_2) (hB : Below w0.heap.size w0 w) (h : spec_l01Bent.f s0_0 s0_1 s0_2 a1 = some (r1, r2, r3)) :
  Calls Tryz.prog 31 #[.pointer (some ⟨g, 0, none⟩), .string a1] w fun e w' => e = .returned (.string r1) ∧ IsS55 w0 w' g s0_0 r2 r3 ∧ Below w0.heap.size w0 w' ∧ KeepBut w w' g none := by
 have HI0 := Aside0.mk hI
 have HK := Aside0.mk (KeepBut.refl w g none)
 have HL := Aside0.mk hB.size
 clear hI
 have HW0 := Aside0.mk hB.size
 have HB := Aside0.mk hB
 clear hB
 have H : ((spec_l01Below.f s0_0 s0_1 s0_2 (wrap64 ((a1.size : Int) + 1))).bind fun bt124 => ((spec_l01Below.f s0_0 bt124.2.1 bt124.2.2 8).bind fun bt127 => (if bt127.1 = 0 then (if 0 ≤ bt124.1 then (if bt124.1 ≤ (a1.size : Int) then (some (a1.extract 0 (bt124.1 : Int).toNat, bt127.2.1, bt127.2.2)) else (none)) else (none)) else (if bt127.1 = 1 then (if 0 ≤ bt124.1 then (if bt124.1 ≤ (a1.size : Int) then ((spec_l01Pick.f s0_0 bt127.2.1 bt127.2.2 (([(⟨#[48]⟩ : ByteArray), (⟨#[32]⟩ : ByteArray), (⟨#[255]⟩ : ByteArray), (⟨#[34]⟩ : ByteArray), (⟨#[10]⟩ : ByteArray), (⟨#[97]⟩ : ByteArray), (⟨#[44]⟩ : ByteArray), (⟨#[61]⟩ : ByteArray)] : List ByteArray))).bind fun bt133 => (if (a1.extract 0 (bt124.1 : Int).toNat).size + bt133.1.size ≤ 9223372036854775807 then (if ((a1.extract 0 (bt124.1 : Int).toNat) ++ bt133.1).size + (a1.extract (bt124.1 : Int).toNat a1.size).size ≤ 9223372036854775807 then (some (((a1.extract 0 (bt124.1 : Int).toNat) ++ bt133.1) ++ (a1.extract (bt124.1 : Int).toNat a1.size), bt133.2.1, bt133.2.2)) else (none)) else (none))) else (none)) else (none)) else (if bt127.1 = 2 then (if bt124.1 < (a1.size : Int) then (if 0 ≤ bt124.1 then (if bt124.1 ≤ (a1.size : Int) then ((spec_l01Pick.f s0_0 bt127.2.1 bt127.2.2 (([(⟨#[48]⟩ : ByteArray), (⟨#[65]⟩ : ByteArray), (⟨#[0]⟩ : ByteArray), (⟨#[57]⟩ : ByteArray), (⟨#[93]⟩ : ByteArray), (⟨#[92]⟩ : ByteArray)] : List ByteArray))).bind fun bt139 => (if (a1.extract 0 (bt124.1 : Int).toNat).size + bt139.1.size ≤ 9223372036854775807 then (if 0 ≤ (wrap64 (bt124.1 + 1)) then (if (wrap64 (bt124.1 + 1)) ≤ (a1.size : Int) then (if ((a1.extract 0 (bt124.1 : Int).toNat) ++ bt139.1).size + (a1.extract ((wrap64 (bt124.1 + 1)) : Int).toNat a1.size).size ≤ 9223372036854775807 then (some (((a1.extract 0 (bt124.1 : Int).toNat) ++ bt139.1) ++ (a1.extract ((wrap64 (bt124.1 + 1)) : Int).toNat a1.size), bt139.2.1, bt139.2.2)) else (none)) else (none)) else (none)) else (none))) else (none)) else (none)) else (some (a1, bt127.2.1, bt127.2.2))) else (some (a1, bt127.2.1, bt127.2.2))))))) = some (r1, r2, r3) := h
 clear h
 replace H := Option.bind_eq_some_iff.mp H
 obtain ⟨⟨t124, t125, t126⟩, A30, H⟩ := H
 try dsimp only at H
 have A3 := Aside0.mk A30
 clear A30
 replace H := Option.bind_eq_some_iff.mp H
 obtain ⟨⟨t127, t128, t129⟩, A40, H⟩ := H
 try dsimp only at H
 have A4 := Aside0.mk A40
 clear A40
 by_cases c5 : t127 = 0
 ·rw [if_pos c5] at H
  have c5b0 : (t127 == 0) = true := beq_iff_eq.mpr c5
  have c5b1 : (t127 != 0) = false := bne_eq_false_iff_eq.mpr c5
  clear c5
  by_cases c6 : 0 ≤ t124
  ·rw [if_pos c6] at H
   have c6b0 := eq_true c6
   have c6b1 : decide (0 ≤ t124) = true := decide_eq_true c6
   clear c6
   by_cases c7 : t124 ≤ (a1.size : Int)
   ·rw [if_pos c7] at H
    have c7b0 := eq_true c7
    have c7b1 : decide (t124 ≤ (a1.size : Int)) = true := decide_eq_true c7
    clear c7
    obtain ⟨js8, hjs8⟩ : ∃ j_ : ByteArray, (a1.extract 0 (t124 : Int).toNat) = j_ := ⟨_, rfl⟩
    replace H : (some (js8, t128, t129)) = some (r1, r2, r3) := by first | (rw [hjs8] at H; exact H) | (simp only [hjs8] at H ⊢; exact H)
    (try rw [hjs8] at A3)
    (try rw [hjs8] at A4)
    simp only [Option.some.injEq, Prod.mk.injEq] at H
    obtain ⟨rfl, rfl, rfl⟩ := H
    go_enter Tryz.func31, Tryz.ntmps31
    go_wp2_with (first | ((with_reducible refine gate_callee (f := 30) rfl ?_); refine goesL_ (some 10) rfl rfl Tryz.func30 zb17 rfl #[.pointer (some ⟨g, 0, none⟩), .int .i64 (wrap64 ((a1.size : Int) + 1))] rfl zb4 ?_; (with_reducible refine (spec_l01Below.calls g s0_0 s0_1 s0_2 (wrap64 ((a1.size : Int) + 1)) t124 t125 t126 w0 _ ?side1 ?side2 A3.out).mono ?_); (case side1 => exact zb1); (case side2 => exact zb2); rintro e w9 ⟨rfl, hi, hb, hk⟩; refine ⟨_, rfl, ?_⟩; replace HK := Aside0.mk (KeepBut.trans zb3 hk (.inl rfl)); replace HB := Aside0.mk hb; replace HI0 := Aside0.mk hi; (try clear hb); (try clear hb2); (try clear hk); (try clear hi)) | ((with_reducible refine gate_callee (f := 30) rfl ?_); refine goesL_ (some 12) rfl rfl Tryz.func30 zb17 rfl #[.pointer (some ⟨g, 0, none⟩), .int .i64 8] rfl zb4 ?_; (with_reducible refine (spec_l01Below.calls g s0_0 t125 t126 8 t127 t128 t129 w0 _ ?side1 ?side2 A4.out).mono ?_); (case side1 => exact zb1); (case side2 => exact zb2); rintro e w10 ⟨rfl, hi, hb, hk⟩; refine ⟨_, rfl, ?_⟩; replace HK := Aside0.mk (KeepBut.trans zb3 hk (.inl rfl)); replace HB := Aside0.mk hb; replace HI0 := Aside0.mk hi; (try clear hb); (try clear hb2); (try clear hk); (try clear hi)))
    go_ret
    exact ⟨(by first | rfl | (simp [errW_none, errW_some] <;> rfl) | (simp only [← hjs8]; first | rfl | (simp [errW_none, errW_some] <;> rfl)) | (simp [*, errW_none, errW_some] <;> rfl)), zb1, zb2, zb3⟩
   ·rw [if_neg c7] at H
    exact absurd H zb26
  ·rw [if_neg c6] at H
   exact absurd H zb26
 ·rw [if_neg c5] at H
  have c5b0 : (t127 == 0) = false := beq_eq_false_iff_ne.mpr c5
  have c5b1 : (t127 != 0) = true := bne_iff_ne.mpr c5
  by_cases c11 : t127 = 1
  ·rw [if_pos c11] at H
   have c11b0 : (t127 == 1) = true := beq_iff_eq.mpr c11
   have c11b1 : (t127 != 1) = false := bne_eq_false_iff_eq.mpr c11
   clear c11
   by_cases c12 : 0 ≤ t124
   ·rw [if_pos c12] at H
    have c12b0 := eq_true c12
    have c12b1 : decide (0 ≤ t124) = true := decide_eq_true c12
    clear c12
    by_cases c13 : t124 ≤ (a1.size : Int)
    ·rw [if_pos c13] at H
     have c13b0 := eq_true c13
     have c13b1 : decide (t124 ≤ (a1.size : Int)) = true := decide_eq_true c13
     clear c13
     obtain ⟨js14, hjs14⟩ : ∃ j_ : ByteArray, (a1.extract 0 (t124 : Int).toNat) = j_ := ⟨_, rfl⟩
     replace H : ((spec_l01Pick.f s0_0 t128 t129 (([(⟨#[48]⟩ : ByteArray), (⟨#[32]⟩ : ByteArray), (⟨#[255]⟩ : ByteArray), (⟨#[34]⟩ : ByteArray), (⟨#[10]⟩ : ByteArray), (⟨#[97]⟩ : ByteArray), (⟨#[44]⟩ : ByteArray), (⟨#[61]⟩ : ByteArray)] : List ByteArray))).bind fun bt133 => (if (js14).size + bt133.1.size ≤ 9223372036854775807 then (if ((js14) ++ bt133.1).size + (a1.extract (t124 : Int).toNat a1.size).size ≤ 9223372036854775807 then (some (((js14) ++ bt133.1) ++ (a1.extract (t124 : Int).toNat a1.size), bt133.2.1, bt133.2.2)) else (none)) else (none))) = some (r1, r2, r3) := by first | (rw [hjs14] at H; exact H) | (simp only [hjs14] at H ⊢; exact H)
     (try rw [hjs14] at A3)
     (try rw [hjs14] at A4)
     obtain ⟨y130, hy130⟩ : ∃ y_ : List ByteArray, y_ = (([(⟨#[48]⟩ : ByteArray), (⟨#[32]⟩ : ByteArray), (⟨#[255]⟩ : ByteArray), (⟨#[34]⟩ : ByteArray), (⟨#[10]⟩ : ByteArray), (⟨#[97]⟩ : ByteArray), (⟨#[44]⟩ : ByteArray), (⟨#[61]⟩ : ByteArray)] : List ByteArray)) := ⟨_, rfl⟩
     first | replace H := hb1 H (show (spec_l01Pick.f s0_0 t128 t129 y130) = _ from (by rw [hy130])) | replace H := hb1 (hb2 H) (show (spec_l01Pick.f s0_0 t128 t129 y130) = _ from (by rw [hy130]))
     have Ny130 := Aside0.mk hy130
     clear hy130
     replace H := Option.bind_eq_some_iff.mp H
     obtain ⟨⟨t133, t134, t135⟩, A150, H⟩ := H
     try dsimp only at H
     have A15 := Aside0.mk A150
     clear A150
     by_cases c16 : (js14).size + t133.size ≤ 9223372036854775807
     ·rw [if_pos c16] at H
      have c16b0 := eq_true c16
      have c16b1 : decide ((js14).size + t133.size ≤ 9223372036854775807) = true := decide_eq_true c16
      try have c16b2 : (9223372036854775807 < (js14).size + t133.size) = False := eq_false (Nat.not_lt.2 c16)
      obtain ⟨js17, hjs17⟩ : ∃ j_ : ByteArray, ((js14) ++ t133) = j_ := ⟨_, rfl⟩
      replace H : (if (js17).size + (a1.extract (t124 : Int).toNat a1.size).size ≤ 9223372036854775807 then (some ((js17) ++ (a1.extract (t124 : Int).toNat a1.size), t134, t135)) else (none)) = some (r1, r2, r3) := by first | (rw [hjs17] at H; exact H) | (simp only [hjs17] at H ⊢; exact H)
      (try rw [hjs17] at A3)
      (try rw [hjs17] at A4)
      (try rw [hjs17] at A15)
      have c18b0 := eq_true (of_decide_eq_true zb19 : 0 ≤ t124)
      have c19b0 := eq_true (of_decide_eq_true zb19 : t124 ≤ (a1.size : Int))
      obtain ⟨js20, hjs20⟩ : ∃ j_ : ByteArray, (a1.extract (t124 : Int).toNat a1.size) = j_ := ⟨_, rfl⟩
      replace H : (if (js17).size + (js20).size ≤ 9223372036854775807 then (some ((js17) ++ (js20), t134, t135)) else (none)) = some (r1, r2, r3) := by first | (rw [hjs20] at H; exact H) | (simp only [hjs20] at H ⊢; exact H)
      (try rw [hjs20] at A3)
      (try rw [hjs20] at A4)
      (try rw [hjs20] at A15)
      by_cases c21 : (js17).size + (js20).size ≤ 9223372036854775807
      ·rw [if_pos c21] at H
       have c21b0 := eq_true c21
       have c21b1 : decide ((js17).size + (js20).size ≤ 9223372036854775807) = true := decide_eq_true c21
       try have c21b2 : (9223372036854775807 < (js17).size + (js20).size) = False := eq_false (Nat.not_lt.2 c21)
       obtain ⟨js22, hjs22⟩ : ∃ j_ : ByteArray, ((js17) ++ (js20)) = j_ := ⟨_, rfl⟩
       replace H : (some (js22, t134, t135)) = some (r1, r2, r3) := by first | (rw [hjs22] at H; exact H) | (simp only [hjs22] at H ⊢; exact H)
       (try rw [hjs22] at A3)
       (try rw [hjs22] at A4)
       (try rw [hjs22] at A15)
       simp only [Option.some.injEq, Prod.mk.injEq] at H
       obtain ⟨rfl, rfl, rfl⟩ := H
       go_enter Tryz.func31, Tryz.ntmps31
       try go_wp2_with (first | ((with_reducible refine gate_callee (f := 30) rfl ?_); refine goesL_ (some 10) rfl rfl Tryz.func30 zb17 rfl #[.pointer (some ⟨g, 0, none⟩), .int .i64 (wrap64 ((a1.size : Int) + 1))] rfl zb4 ?_; (with_reducible refine (spec_l01Below.calls g s0_0 s0_1 s0_2 (wrap64 ((a1.size : Int) + 1)) t124 t125 t126 w0 _ ?side1 ?side2 A3.out).mono ?_); (case side1 => exact zb1); (case side2 => exact zb2); rintro e w23 ⟨rfl, hi, hb, hk⟩; refine ⟨_, rfl, ?_⟩; replace HK := Aside0.mk (KeepBut.trans zb3 hk (.inl rfl)); replace HB := Aside0.mk hb; replace HI0 := Aside0.mk hi; (try clear hb); (try clear hb2); (try clear hk); (try clear hi)) | ((with_reducible refine gate_callee (f := 30) rfl ?_); refine goesL_ (some 12) rfl rfl Tryz.func30 zb17 rfl #[.pointer (some ⟨g, 0, none⟩), .int .i64 8] rfl zb4 ?_; (with_reducible refine (spec_l01Below.calls g s0_0 t125 t126 8 t127 t128 t129 w0 _ ?side1 ?side2 A4.out).mono ?_); (case side1 => exact zb1); (case side2 => exact zb2); rintro e w24 ⟨rfl, hi, hb, hk⟩; refine ⟨_, rfl, ?_⟩; replace HK := Aside0.mk (KeepBut.trans zb3 hk (.inl rfl)); replace HB := Aside0.mk hb; replace HI0 := Aside0.mk hi; (try clear hb); (try clear hb2); (try clear hk); (try clear hi)))
       replace HI0 := Aside0.mk (IsS55.drew HI0.out)
       replace HK := Aside0.mk (keep_drew HK.out)
       replace HB := Aside0.mk (below_drew1 HB.out)
       refine start_ (n := 12) (S := fun w' => True) (ds := []) #[false, false, false, false, false, false, false, false, false, false, false, false] zb17 rfl rfl trivial (fun hHeld => ?_); refine with_tabW spec_l01Bent.tab6 spec_l01Bent.bits6 (fun HT_ HW_ => ?_)
       generalize w24.drew = w25 at HI0 HK HB hHeld ⊢
       refine pz 0 20 ?_
       refine pz 1 21 ?_
       refine pz 2 22 ?_
       refine pz 3 23 ?_
       refine pz 7 27 ?_
       refine pz 8 28 ?_
       refine pz 9 29 ?_
       refine one_ (i := 4) (N := some 24) #[true, true, true, true, true, false, false, true, true, true, false, false] rfl rfl (one_of HT_.out zb17) zb22 (fun K hK => ?_)
       refine Kd.R_lit_step Kd.string _ 9 ?hg (N := 24) ?hd (xs := ([(⟨#[48]⟩ : ByteArray), (⟨#[32]⟩ : ByteArray), (⟨#[255]⟩ : ByteArray), (⟨#[34]⟩ : ByteArray), (⟨#[10]⟩ : ByteArray), (⟨#[97]⟩ : ByteArray), (⟨#[44]⟩ : ByteArray), (⟨#[61]⟩ : ByteArray)] : List ByteArray)) (inner := [.string (⟨#[48]⟩ : ByteArray), .string (⟨#[32]⟩ : ByteArray), .string (⟨#[255]⟩ : ByteArray), .string (⟨#[34]⟩ : ByteArray), .string (⟨#[10]⟩ : ByteArray), .string (⟨#[97]⟩ : ByteArray), .string (⟨#[44]⟩ : ByteArray), .string (⟨#[61]⟩ : ByteArray)]) (ok := fun _ => True) (okp := fun _ => True) ?hr ?hp (fun _ hk => hk) trivial (Below.refl _ _) (Nat.le_refl _) zb26 ?_; (case hd => rfl); (case hg => rfl); (case hr => exact zb18); (case hp => exact zb15)
       intro v131 w26 ho27 hb hg_ hnew_
       clear hg_ hnew_
       (first | rw [← Ny130.out] at ho27 | (simp only [Int.reduceToNat] at ho27; rw [← Ny130.out] at ho27))
       have HO132 := Aside0.mk (Kd.R_lower ho27 (keep_size (w := w) (g := g) (row := none) zb3))
       replace HK := Aside0.mk (KeepBut.trans zb3 (KeepBut.of_below hb g none) (.inl rfl))
       replace HB := Aside0.mk (below_step zb2 hb)
       replace HI0 := Aside0.mk (IsS55.below zb1 hb)
       clear hb ho27
       obtain ⟨Ao28, co28, eo28⟩ := Kd.R_slice HO132.out
       (first | subst eo28 | (injection eo28 with f1_ f2_ f3_; have f4_ := f1_.symm; have f5_ := f3_.symm; clear f1_ f2_ f3_; subst f4_; subst f5_))
       refine hK.out _ _ trivial (fun hHeld => ?_)
       clear hK K
       refine norm_ (a' := ?_) ?_ ?_
       rotate_left
       ·show Act.put _ (some 24) _ = _
        simp only [Act.put, List.setIfInBounds_toArray, List.set_cons_zero, List.set_cons_succ, i64_w, i32_w]
        rfl
       refine one_ (i := 5) (N := some 25) #[true, true, true, true, true, true, false, true, true, true, false, false] rfl rfl (one_of HT_.out zb17) zb22 (fun K hK => ?_)
       refine goes_ Tryz.func36 zb17 rfl #[.pointer (some ⟨g, 0, none⟩), .slice Ao28 y130.length co28] (by rfl) rfl rfl zb4 ?_
       with_reducible refine (spec_l01Pick.calls g s0_0 t128 t129 _ _ y130 t133 t134 t135 w0 _ ?side1 ?side2 ?side3 ?side4 ?side5 A15.out).mono ?_
       (case side1 => exact zb1)
       (case side2 => exact zb2)
       (case side3 => repeat (first | exact (Kd.R_reads' HO132.out).2.2 | (with_reducible refine Kd.C_alloc ?_ _) | (with_reducible refine Kd.C_drewN ?_ _) | (with_reducible refine Kd.C_drew ?_)))
       (case side4 => exact (Kd.R_reads' HO132.out).2.1)
       (case side5 => exact far_slice (IsS55.own_ne HI0.out HO132.out zb22))
       rintro e w29 ⟨rfl, hi, hb, hk⟩
       refine ⟨_, rfl, ?_⟩
       replace HO132 := Aside0.mk (Kd.R_mono (Kd.R_keep (IsS55.apart (show IsS55 w0 _ g s0_0 t128 t129 from zb1) (zR HO132.out) zb22) hk (fun _ h => h.2)) (fun _ h => h.1))
       replace HK := Aside0.mk (KeepBut.trans zb3 hk (.inl rfl))
       replace HB := Aside0.mk hb
       replace HI0 := Aside0.mk hi
       (try clear hb)
       (try clear hb2)
       (try clear hk)
       (try clear hi)
       refine hK.out _ _ trivial (fun hHeld => ?_)
       clear hK K
       refine norm_ (a' := ?_) ?_ ?_
       rotate_left
       ·show Act.put _ (some 25) _ = _
        simp only [Act.put, List.setIfInBounds_toArray, List.set_cons_zero, List.set_cons_succ, i64_w, i32_w]
        rfl
       refine pz 6 26 ?_
       refine pz 10 30 ?_
       refine pz 11 4 ?_
       refine done_ (done_of HT_.out zb17) ?_
       try go_wp2
       go_ret
       exact ⟨(by first | rfl | (simp [errW_none, errW_some] <;> rfl) | (simp only [← hjs14, ← hjs17, ← hjs20, ← hjs22]; first | rfl | (simp [errW_none, errW_some] <;> rfl)) | (simp [*, errW_none, errW_some] <;> rfl)), zb1, zb2, zb3⟩
      ·rw [if_neg c21] at H
       exact absurd H zb26
     ·rw [if_neg c16] at H
      exact absurd H zb26
    ·rw [if_neg c13] at H
     exact absurd H zb26
   ·rw [if_neg c12] at H
    exact absurd H zb26
  ·rw [if_neg c11] at H
   have c11b0 : (t127 == 1) = false := beq_eq_false_iff_ne.mpr c11
   have c11b1 : (t127 != 1) = true := bne_iff_ne.mpr c11
   by_cases c30 : t127 = 2
   ·rw [if_pos c30] at H
    have c30b0 : (t127 == 2) = true := beq_iff_eq.mpr c30
    have c30b1 : (t127 != 2) = false := bne_eq_false_iff_eq.mpr c30
    clear c30
    by_cases c31 : t124 < (a1.size : Int)
    ·rw [if_pos c31] at H
     have c31b0 : decide (t124 < (a1.size : Int)) = true := decide_eq_true c31
     clear c31
     by_cases c32 : 0 ≤ t124
     ·rw [if_pos c32] at H
      have c32b0 := eq_true c32
      have c32b1 : decide (0 ≤ t124) = true := decide_eq_true c32
      clear c32
      by_cases c33 : t124 ≤ (a1.size : Int)
      ·rw [if_pos c33] at H
       have c33b0 := eq_true c33
       have c33b1 : decide (t124 ≤ (a1.size : Int)) = true := decide_eq_true c33
       clear c33
       obtain ⟨js34, hjs34⟩ : ∃ j_ : ByteArray, (a1.extract 0 (t124 : Int).toNat) = j_ := ⟨_, rfl⟩
       replace H : ((spec_l01Pick.f s0_0 t128 t129 (([(⟨#[48]⟩ : ByteArray), (⟨#[65]⟩ : ByteArray), (⟨#[0]⟩ : ByteArray), (⟨#[57]⟩ : ByteArray), (⟨#[93]⟩ : ByteArray), (⟨#[92]⟩ : ByteArray)] : List ByteArray))).bind fun bt139 => (if (js34).size + bt139.1.size ≤ 9223372036854775807 then (if 0 ≤ (wrap64 (t124 + 1)) then (if (wrap64 (t124 + 1)) ≤ (a1.size : Int) then (if ((js34) ++ bt139.1).size + (a1.extract ((wrap64 (t124 + 1)) : Int).toNat a1.size).size ≤ 9223372036854775807 then (some (((js34) ++ bt139.1) ++ (a1.extract ((wrap64 (t124 + 1)) : Int).toNat a1.size), bt139.2.1, bt139.2.2)) else (none)) else (none)) else (none)) else (none))) = some (r1, r2, r3) := by first | (rw [hjs34] at H; exact H) | (simp only [hjs34] at H ⊢; exact H)
       (try rw [hjs34] at A3)
       (try rw [hjs34] at A4)
       obtain ⟨y136, hy136⟩ : ∃ y_ : List ByteArray, y_ = (([(⟨#[48]⟩ : ByteArray), (⟨#[65]⟩ : ByteArray), (⟨#[0]⟩ : ByteArray), (⟨#[57]⟩ : ByteArray), (⟨#[93]⟩ : ByteArray), (⟨#[92]⟩ : ByteArray)] : List ByteArray)) := ⟨_, rfl⟩
       first | replace H := hb1 H (show (spec_l01Pick.f s0_0 t128 t129 y136) = _ from (by rw [hy136])) | replace H := hb1 (hb2 H) (show (spec_l01Pick.f s0_0 t128 t129 y136) = _ from (by rw [hy136]))
       have Ny136 := Aside0.mk hy136
       clear hy136
       replace H := Option.bind_eq_some_iff.mp H
       obtain ⟨⟨t139, t140, t141⟩, A350, H⟩ := H
       try dsimp only at H
       have A35 := Aside0.mk A350
       clear A350
       by_cases c36 : (js34).size + t139.size ≤ 9223372036854775807
       ·rw [if_pos c36] at H
        have c36b0 := eq_true c36
        have c36b1 : decide ((js34).size + t139.size ≤ 9223372036854775807) = true := decide_eq_true c36
        try have c36b2 : (9223372036854775807 < (js34).size + t139.size) = False := eq_false (Nat.not_lt.2 c36)
        obtain ⟨js37, hjs37⟩ : ∃ j_ : ByteArray, ((js34) ++ t139) = j_ := ⟨_, rfl⟩
        replace H : (if 0 ≤ (wrap64 (t124 + 1)) then (if (wrap64 (t124 + 1)) ≤ (a1.size : Int) then (if (js37).size + (a1.extract ((wrap64 (t124 + 1)) : Int).toNat a1.size).size ≤ 9223372036854775807 then (some ((js37) ++ (a1.extract ((wrap64 (t124 + 1)) : Int).toNat a1.size), t140, t141)) else (none)) else (none)) else (none)) = some (r1, r2, r3) := by first | (rw [hjs37] at H; exact H) | (simp only [hjs37] at H ⊢; exact H)
        (try rw [hjs37] at A3)
        (try rw [hjs37] at A4)
        (try rw [hjs37] at A35)
        obtain ⟨ji38, hji38⟩ : ∃ j_ : Int, (wrap64 (t124 + 1)) = j_ := ⟨_, rfl⟩
        replace H : (if 0 ≤ (ji38) then (if (ji38) ≤ (a1.size : Int) then (if (js37).size + (a1.extract ((ji38) : Int).toNat a1.size).size ≤ 9223372036854775807 then (some ((js37) ++ (a1.extract ((ji38) : Int).toNat a1.size), t140, t141)) else (none)) else (none)) else (none)) = some (r1, r2, r3) := by first | (rw [hji38] at H; exact H) | (simp only [hji38] at H ⊢; exact H)
        (try rw [hji38] at A3)
        (try rw [hji38] at A4)
        (try rw [hji38] at A35)
        have hji38w : (IntKind.i64.wrap (t124 + 1)) = ji38 := (i64_w _).trans hji38
        by_cases c39 : 0 ≤ (ji38)
        ·rw [if_pos c39] at H
         have c39b0 := eq_true c39
         have c39b1 : decide (0 ≤ (ji38)) = true := decide_eq_true c39
         clear c39
         by_cases c40 : (ji38) ≤ (a1.size : Int)
         ·rw [if_pos c40] at H
          have c40b0 := eq_true c40
          have c40b1 : decide ((ji38) ≤ (a1.size : Int)) = true := decide_eq_true c40
          clear c40
          obtain ⟨js41, hjs41⟩ : ∃ j_ : ByteArray, (a1.extract ((ji38) : Int).toNat a1.size) = j_ := ⟨_, rfl⟩
          replace H : (if (js37).size + (js41).size ≤ 9223372036854775807 then (some ((js37) ++ (js41), t140, t141)) else (none)) = some (r1, r2, r3) := by first | (rw [hjs41] at H; exact H) | (simp only [hjs41] at H ⊢; exact H)
          (try rw [hjs41] at A3)
          (try rw [hjs41] at A4)
          (try rw [hjs41] at A35)
          by_cases c42 : (js37).size + (js41).size ≤ 9223372036854775807
          ·rw [if_pos c42] at H
           have c42b0 := eq_true c42
           have c42b1 : decide ((js37).size + (js41).size ≤ 9223372036854775807) = true := decide_eq_true c42
           try have c42b2 : (9223372036854775807 < (js37).size + (js41).size) = False := eq_false (Nat.not_lt.2 c42)
           obtain ⟨js43, hjs43⟩ : ∃ j_ : ByteArray, ((js37) ++ (js41)) = j_ := ⟨_, rfl⟩
           replace H : (some (js43, t140, t141)) = some (r1, r2, r3) := by first | (rw [hjs43] at H; exact H) | (simp only [hjs43] at H ⊢; exact H)
           (try rw [hjs43] at A3)
           (try rw [hjs43] at A4)
           (try rw [hjs43] at A35)
           simp only [Option.some.injEq, Prod.mk.injEq] at H
           obtain ⟨rfl, rfl, rfl⟩ := H
           go_enter Tryz.func31, Tryz.ntmps31
           try go_wp2_with (first | ((with_reducible refine gate_callee (f := 30) rfl ?_); refine goesL_ (some 10) rfl rfl Tryz.func30 zb17 rfl #[.pointer (some ⟨g, 0, none⟩), .int .i64 (wrap64 ((a1.size : Int) + 1))] rfl zb4 ?_; (with_reducible refine (spec_l01Below.calls g s0_0 s0_1 s0_2 (wrap64 ((a1.size : Int) + 1)) t124 t125 t126 w0 _ ?side1 ?side2 A3.out).mono ?_); (case side1 => exact zb1); (case side2 => exact zb2); rintro e w44 ⟨rfl, hi, hb, hk⟩; refine ⟨_, rfl, ?_⟩; replace HK := Aside0.mk (KeepBut.trans zb3 hk (.inl rfl)); replace HB := Aside0.mk hb; replace HI0 := Aside0.mk hi; (try clear hb); (try clear hb2); (try clear hk); (try clear hi)) | ((with_reducible refine gate_callee (f := 30) rfl ?_); refine goesL_ (some 12) rfl rfl Tryz.func30 zb17 rfl #[.pointer (some ⟨g, 0, none⟩), .int .i64 8] rfl zb4 ?_; (with_reducible refine (spec_l01Below.calls g s0_0 t125 t126 8 t127 t128 t129 w0 _ ?side1 ?side2 A4.out).mono ?_); (case side1 => exact zb1); (case side2 => exact zb2); rintro e w45 ⟨rfl, hi, hb, hk⟩; refine ⟨_, rfl, ?_⟩; replace HK := Aside0.mk (KeepBut.trans zb3 hk (.inl rfl)); replace HB := Aside0.mk hb; replace HI0 := Aside0.mk hi; (try clear hb); (try clear hb2); (try clear hk); (try clear hi)))
           replace HI0 := Aside0.mk (IsS55.drew HI0.out)
           replace HK := Aside0.mk (keep_drew HK.out)
           replace HB := Aside0.mk (below_drew1 HB.out)
           refine start_ (n := 13) (S := fun w' => True) (ds := []) #[false, false, false, false, false, false, false, false, false, false, false, false, false] zb17 rfl rfl trivial (fun hHeld => ?_); refine with_tabW spec_l01Bent.tab9 spec_l01Bent.bits9 (fun HT_ HW_ => ?_)
           generalize w45.drew = w46 at HI0 HK HB hHeld ⊢
           refine pz 0 37 ?_
           refine pz 1 38 ?_
           refine pz 2 39 ?_
           refine pz 3 40 ?_
           refine pz 7 44 ?_
           refine pz 8 45 ?_
           refine pz 9 46 ?_
           refine pz 10 47 ?_
           refine one_ (i := 4) (N := some 41) #[true, true, true, true, true, false, false, true, true, true, true, false, false] rfl rfl (one_of HT_.out zb17) zb22 (fun K hK => ?_)
           refine Kd.R_lit_step Kd.string _ 9 ?hg (N := 41) ?hd (xs := ([(⟨#[48]⟩ : ByteArray), (⟨#[65]⟩ : ByteArray), (⟨#[0]⟩ : ByteArray), (⟨#[57]⟩ : ByteArray), (⟨#[93]⟩ : ByteArray), (⟨#[92]⟩ : ByteArray)] : List ByteArray)) (inner := [.string (⟨#[48]⟩ : ByteArray), .string (⟨#[65]⟩ : ByteArray), .string (⟨#[0]⟩ : ByteArray), .string (⟨#[57]⟩ : ByteArray), .string (⟨#[93]⟩ : ByteArray), .string (⟨#[92]⟩ : ByteArray)]) (ok := fun _ => True) (okp := fun _ => True) ?hr ?hp (fun _ hk => hk) trivial (Below.refl _ _) (Nat.le_refl _) zb26 ?_; (case hd => rfl); (case hg => rfl); (case hr => exact zb18); (case hp => exact zb15)
           intro v137 w47 ho48 hb hg_ hnew_
           clear hg_ hnew_
           (first | rw [← Ny136.out] at ho48 | (simp only [Int.reduceToNat] at ho48; rw [← Ny136.out] at ho48))
           have HO138 := Aside0.mk (Kd.R_lower ho48 (keep_size (w := w) (g := g) (row := none) zb3))
           replace HK := Aside0.mk (KeepBut.trans zb3 (KeepBut.of_below hb g none) (.inl rfl))
           replace HB := Aside0.mk (below_step zb2 hb)
           replace HI0 := Aside0.mk (IsS55.below zb1 hb)
           clear hb ho48
           obtain ⟨Ao49, co49, eo49⟩ := Kd.R_slice HO138.out
           (first | subst eo49 | (injection eo49 with f1_ f2_ f3_; have f4_ := f1_.symm; have f5_ := f3_.symm; clear f1_ f2_ f3_; subst f4_; subst f5_))
           refine hK.out _ _ trivial (fun hHeld => ?_)
           clear hK K
           refine norm_ (a' := ?_) ?_ ?_
           rotate_left
           ·show Act.put _ (some 41) _ = _
            simp only [Act.put, List.setIfInBounds_toArray, List.set_cons_zero, List.set_cons_succ, i64_w, i32_w]
            rfl
           refine one_ (i := 5) (N := some 42) #[true, true, true, true, true, true, false, true, true, true, true, false, false] rfl rfl (one_of HT_.out zb17) zb22 (fun K hK => ?_)
           refine goes_ Tryz.func36 zb17 rfl #[.pointer (some ⟨g, 0, none⟩), .slice Ao49 y136.length co49] (by rfl) rfl rfl zb4 ?_
           with_reducible refine (spec_l01Pick.calls g s0_0 t128 t129 _ _ y136 t139 t140 t141 w0 _ ?side1 ?side2 ?side3 ?side4 ?side5 A35.out).mono ?_
           (case side1 => exact zb1)
           (case side2 => exact zb2)
           (case side3 => repeat (first | exact (Kd.R_reads' HO138.out).2.2 | (with_reducible refine Kd.C_alloc ?_ _) | (with_reducible refine Kd.C_drewN ?_ _) | (with_reducible refine Kd.C_drew ?_)))
           (case side4 => exact (Kd.R_reads' HO138.out).2.1)
           (case side5 => exact far_slice (IsS55.own_ne HI0.out HO138.out zb22))
           rintro e w50 ⟨rfl, hi, hb, hk⟩
           refine ⟨_, rfl, ?_⟩
           replace HO138 := Aside0.mk (Kd.R_mono (Kd.R_keep (IsS55.apart (show IsS55 w0 _ g s0_0 t128 t129 from zb1) (zR HO138.out) zb22) hk (fun _ h => h.2)) (fun _ h => h.1))
           replace HK := Aside0.mk (KeepBut.trans zb3 hk (.inl rfl))
           replace HB := Aside0.mk hb
           replace HI0 := Aside0.mk hi
           (try clear hb)
           (try clear hb2)
           (try clear hk)
           (try clear hi)
           refine hK.out _ _ trivial (fun hHeld => ?_)
           clear hK K
           refine norm_ (a' := ?_) ?_ ?_
           rotate_left
           ·show Act.put _ (some 42) _ = _
            simp only [Act.put, List.setIfInBounds_toArray, List.set_cons_zero, List.set_cons_succ, i64_w, i32_w]
            rfl
           refine pz 6 43 ?_
           refine pz 11 48 ?_
           refine pz 12 4 ?_
           refine done_ (done_of HT_.out zb17) ?_
           try go_wp2
           go_ret
           exact ⟨(by first | rfl | (simp [errW_none, errW_some] <;> rfl) | (simp only [← hjs34, ← hjs37, ← hji38, ← hjs41, ← hjs43]; first | rfl | (simp [errW_none, errW_some] <;> rfl)) | (simp [*, errW_none, errW_some] <;> rfl)), zb1, zb2, zb3⟩
          ·rw [if_neg c42] at H
           exact absurd H zb26
         ·rw [if_neg c40] at H
          exact absurd H zb26
        ·rw [if_neg c39] at H
         exact absurd H zb26
       ·rw [if_neg c36] at H
        exact absurd H zb26
      ·rw [if_neg c33] at H
       exact absurd H zb26
     ·rw [if_neg c32] at H
      exact absurd H zb26
    ·rw [if_neg c31] at H
     have c31b0 : decide (t124 < (a1.size : Int)) = false := decide_eq_false c31
     clear c31
     simp only [Option.some.injEq, Prod.mk.injEq] at H
     obtain ⟨rfl, rfl, rfl⟩ := H
     go_enter Tryz.func31, Tryz.ntmps31
     go_wp2_with (first | ((with_reducible refine gate_callee (f := 30) rfl ?_); refine goesL_ (some 10) rfl rfl Tryz.func30 zb17 rfl #[.pointer (some ⟨g, 0, none⟩), .int .i64 (wrap64 ((a1.size : Int) + 1))] rfl zb4 ?_; (with_reducible refine (spec_l01Below.calls g s0_0 s0_1 s0_2 (wrap64 ((a1.size : Int) + 1)) t124 t125 t126 w0 _ ?side1 ?side2 A3.out).mono ?_); (case side1 => exact zb1); (case side2 => exact zb2); rintro e w51 ⟨rfl, hi, hb, hk⟩; refine ⟨_, rfl, ?_⟩; replace HK := Aside0.mk (KeepBut.trans zb3 hk (.inl rfl)); replace HB := Aside0.mk hb; replace HI0 := Aside0.mk hi; (try clear hb); (try clear hb2); (try clear hk); (try clear hi)) | ((with_reducible refine gate_callee (f := 30) rfl ?_); refine goesL_ (some 12) rfl rfl Tryz.func30 zb17 rfl #[.pointer (some ⟨g, 0, none⟩), .int .i64 8] rfl zb4 ?_; (with_reducible refine (spec_l01Below.calls g s0_0 t125 t126 8 t127 t128 t129 w0 _ ?side1 ?side2 A4.out).mono ?_); (case side1 => exact zb1); (case side2 => exact zb2); rintro e w52 ⟨rfl, hi, hb, hk⟩; refine ⟨_, rfl, ?_⟩; replace HK := Aside0.mk (KeepBut.trans zb3 hk (.inl rfl)); replace HB := Aside0.mk hb; replace HI0 := Aside0.mk hi; (try clear hb); (try clear hb2); (try clear hk); (try clear hi)))
     go_ret
     exact ⟨zb9, zb1, zb2, zb3⟩
   ·rw [if_neg c30] at H
    have c30b0 : (t127 == 2) = false := beq_eq_false_iff_ne.mpr c30
    have c30b1 : (t127 != 2) = true := bne_iff_ne.mpr c30
    simp only [Option.some.injEq, Prod.mk.injEq] at H
    obtain ⟨rfl, rfl, rfl⟩ := H
    go_enter Tryz.func31, Tryz.ntmps31
    go_wp2_with (first | ((with_reducible refine gate_callee (f := 30) rfl ?_); refine goesL_ (some 10) rfl rfl Tryz.func30 zb17 rfl #[.pointer (some ⟨g, 0, none⟩), .int .i64 (wrap64 ((a1.size : Int) + 1))] rfl zb4 ?_; (with_reducible refine (spec_l01Below.calls g s0_0 s0_1 s0_2 (wrap64 ((a1.size : Int) + 1)) t124 t125 t126 w0 _ ?side1 ?side2 A3.out).mono ?_); (case side1 => exact zb1); (case side2 => exact zb2); rintro e w53 ⟨rfl, hi, hb, hk⟩; refine ⟨_, rfl, ?_⟩; replace HK := Aside0.mk (KeepBut.trans zb3 hk (.inl rfl)); replace HB := Aside0.mk hb; replace HI0 := Aside0.mk hi; (try clear hb); (try clear hb2); (try clear hk); (try clear hi)) | ((with_reducible refine gate_callee (f := 30) rfl ?_); refine goesL_ (some 12) rfl rfl Tryz.func30 zb17 rfl #[.pointer (some ⟨g, 0, none⟩), .int .i64 8] rfl zb4 ?_; (with_reducible refine (spec_l01Below.calls g s0_0 t125 t126 8 t127 t128 t129 w0 _ ?side1 ?side2 A4.out).mono ?_); (case side1 => exact zb1); (case side2 => exact zb2); rintro e w54 ⟨rfl, hi, hb, hk⟩; refine ⟨_, rfl, ?_⟩; replace HK := Aside0.mk (KeepBut.trans zb3 hk (.inl rfl)); replace HB := Aside0.mk hb; replace HI0 := Aside0.mk hi; (try clear hb); (try clear hb2); (try clear hk); (try clear hi)))
    go_ret
    exact ⟨zb9, zb1, zb2, zb3⟩
set_option maxHeartbeats 8000000 in
set_option maxRecDepth 100000 in
theorem spec_l01Once.calls (g : Nat) (s0_0 : List Int) (s0_1 : Int) (s0_2 : Int) (a1 : Int) (r1 : Bool) (r2 : Int) (r3 : Int) (w0 w : World) (hI : IsS55 w0 w g s0_0 s0_1 s0_2) (hB : Below w0.heap.size w0 w) (h : spec_l01Once.f s0_0 s0_1 s0_2 a1 = some (r1, r2, r3)) :
  Calls Tryz.prog 35 #[.pointer (some ⟨g, 0, none⟩), .int .i64 a1] w fun e w' => e = .returned (.bool r1) ∧ IsS55 w0 w' g s0_0 r2 r3 ∧ Below w0.heap.size w0 w' ∧ KeepBut w w' g none := by
 have HI0 := Aside0.mk hI
 have HK := Aside0.mk (KeepBut.refl w g none)
 have HL := Aside0.mk hB.size
 clear hI
 have HW0 := Aside0.mk hB.size
 have HB := Aside0.mk hB
 clear hB
 have H : ((spec_l01Below.f s0_0 s0_1 s0_2 a1).bind fun bt166 => (some ((bt166.1 == 0), bt166.2.1, bt166.2.2))) = some (r1, r2, r3) := h
 clear h
 replace H := Option.bind_eq_some_iff.mp H
 obtain ⟨⟨t166, t167, t168⟩, A30, H⟩ := H
 try dsimp only at H
 have A3 := Aside0.mk A30
 clear A30
 simp only [Option.some.injEq, Prod.mk.injEq] at H
 obtain ⟨rfl, rfl, rfl⟩ := H
 go_enter Tryz.func35, Tryz.ntmps35
 go_wp2_with (first | ((with_reducible refine gate_callee (f := 30) rfl ?_); refine goesL_ (some 7) rfl rfl Tryz.func30 zb17 rfl #[.pointer (some ⟨g, 0, none⟩), .int .i64 a1] rfl zb4 ?_; (with_reducible refine (spec_l01Below.calls g s0_0 s0_1 s0_2 a1 t166 t167 t168 w0 _ ?side1 ?side2 A3.out).mono ?_); (case side1 => exact zb1); (case side2 => exact zb2); rintro e w4 ⟨rfl, hi, hb, hk⟩; refine ⟨_, rfl, ?_⟩; replace HK := Aside0.mk (KeepBut.trans zb3 hk (.inl rfl)); replace HB := Aside0.mk hb; replace HI0 := Aside0.mk hi; (try clear hb)))
 go_ret
 exact ⟨zb9, zb1, zb2, zb3⟩
set_option maxHeartbeats 8000000 in
set_option maxRecDepth 100000 in
theorem spec_l01PickInt.calls (g : Nat) (s0_0 : List Int) (s0_1 : Int) (s0_2 : Int) (A1 : Option Addr) (c1 : Nat) (l1 : List Int) (r1 : Int) (r2 : Int) (r3 : Int) (w0 w : World) (hI : IsS55 w0 w g s0_0 s0_1 s0_2) (hB : Below w0.heap.size w0 w) (hr1 : Kd.C (Kd.int .i64) w A1 l1.length l1) (hc1 : l1.length ≤ c1) (hf1 : ∀ ad, A1 = some ad → 0 < l1.length → ad.block ≠ g) (h : spec_l01PickInt.f s0_0 s0_1 s0_2 l1 = some (r1, r2, r3)) :
  Calls Tryz.prog 89 #[.pointer (some ⟨g, 0, none⟩), .slice A1 l1.length c1] w fun e w' => e = .returned (.int .i64 r1) ∧ IsS55 w0 w' g s0_0 r2 r3 ∧ Below w0.heap.size w0 w' ∧ KeepBut w w' g none := by
 have HR1 := Aside0.mk hr1
 have HC1 := Aside0.mk hc1
 clear hr1 hc1
 have HI0 := Aside0.mk hI
 have HK := Aside0.mk (KeepBut.refl w g none)
 have HL := Aside0.mk hB.size
 clear hI
 have HW0 := Aside0.mk hB.size
 have HB := Aside0.mk hB
 clear hB
 have H : ((spec_l01Below.f s0_0 s0_1 s0_2 (l1.length : Int)).bind fun bt169 => (if 0 ≤ bt169.1 then (if bt169.1 < (l1.length : Int) then (some (rd l1 bt169.1, bt169.2.1, bt169.2.2)) else (none)) else (none))) = some (r1, r2, r3) := h
 clear h
 replace H := Option.bind_eq_some_iff.mp H
 obtain ⟨⟨t169, t170, t171⟩, A30, H⟩ := H
 try dsimp only at H
 have A3 := Aside0.mk A30
 clear A30
 by_cases c4 : 0 ≤ t169
 ·rw [if_pos c4] at H
  have c4b0 : decide (0 ≤ t169) = true := decide_eq_true c4
  clear c4
  by_cases c5 : t169 < (l1.length : Int)
  ·rw [if_pos c5] at H
   have c5b0 : decide (t169 < (l1.length : Int)) = true := decide_eq_true c5
   clear c5
   simp only [Option.some.injEq, Prod.mk.injEq] at H
   obtain ⟨rfl, rfl, rfl⟩ := H
   go_enter Tryz.func89, Tryz.ntmps89
   go_wp2_with (first | ((with_reducible refine gate_callee (f := 30) rfl ?_); refine goesL_ (some 9) rfl rfl Tryz.func30 zb17 rfl #[.pointer (some ⟨g, 0, none⟩), .int .i64 (l1.length : Int)] rfl zb4 ?_; (with_reducible refine (spec_l01Below.calls g s0_0 s0_1 s0_2 (l1.length : Int) t169 t170 t171 w0 _ ?side1 ?side2 A3.out).mono ?_); (case side1 => exact zb1); (case side2 => exact zb2); rintro e w6 ⟨rfl, hi, hb, hk⟩; refine ⟨_, rfl, ?_⟩; replace HK := Aside0.mk (KeepBut.trans zb3 hk (.inl rfl)); replace HB := Aside0.mk hb; replace HI0 := Aside0.mk hi; (try clear hb); have p172 : 0 ≤ (t169 : Int) := of_decide_eq_true zb19; have q172 : t169 < (l1.length : Int) := of_decide_eq_true zb19; obtain ⟨ad172, e172, hx172_0⟩ := Kd.at_int HR1.out t169 p172 q172; cases e172; replace hx172_0 := keep_cell HK.out hx172_0 (by first | (rw [add_block]; exact hf1 _ rfl zb35) | exact hf1 _ rfl zb35 | exact hf1 ad172 rfl zb35); replace p172 := eq_true p172; replace q172 := eq_true q172))
   go_ret
   exact ⟨zb9, zb1, zb2, zb3⟩
  ·rw [if_neg c5] at H
   exact absurd H zb26
 ·rw [if_neg c4] at H
  exact absurd H zb26
end Go.Proofs.YtoidompkofomjaaGreatDoor.G

end
