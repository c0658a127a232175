/- A part of the proof that the law FnTexts answers true at every input that its row speaks of. Conditions: the row's own. -/
import Derived.Test.YtbfbomcfmgdpkaaGreatDoorOpZ
import Derived.Test.YtbfbomcfmgdpkaaGreatDoorKFnTexts0
import Derived.Test.YtbfbomcfmgdpkaaGreatDoorMFnTexts3
import Derived.Test.YtbfbomcfmgdpkaaGreatDoorMFnTexts2
section
namespace Go.Proofs.YtbfbomcfmgdpkaaGreatDoor.G
open Go.RowKit Go.Proofs.YtbfbomcfmgdpkaaGreatDoorW.PrintWords Go.Proofs.YtbfbomcfmgdpkaaGreatDoorW.PrintLast Go.Proofs.YtbfbomcfmgdpkaaGreatDoorW.PrintMore
attribute [local go_sem] max2_int min2_int max_two min_two max_three min_three max_four min_four
attribute [local go_sem high] Go.Proofs.YtbfbomcfmgdpkaaGreatDoor.G.str_gtr Go.Proofs.YtbfbomcfmgdpkaaGreatDoor.G.str_leq Go.Proofs.YtbfbomcfmgdpkaaGreatDoor.G.str_geq
set_option linter.unusedVariables false
set_option linter.unusedSimpArgs false
set_option maxHeartbeats 8000000 in
set_option maxRecDepth 100000 in
theorem spec_Quote.calls (k : Nat) (a0 : ByteArray) (r : ByteArray) (w : World) (h : spec_Quote.f k a0 = some r) :
  Calls Tryz.prog 39 #[.string a0] w fun e w' => e = .returned (.string r) ∧ Below w.heap.size w w' := by
 have HB := Aside0.mk (Below.refl w.heap.size w)
 have H : (spec_Quote.l0 k a0 (([34] : List Int)) 0) = some r := h
 clear h
 obtain ⟨y204, hy204⟩ : ∃ y_ : List Int, y_ = (([34] : List Int)) := ⟨_, rfl⟩
 replace H : (spec_Quote.l0 k a0 y204 0) = some r := by first | (rw [hy204]; with_reducible exact H) | (have H2_ := (Option.bind_some _ _).symm.trans H; rw [hy204]; with_reducible exact H2_) | (have H2_ := (Option.bind_some _ _).symm.trans H; with_reducible exact H2_) | with_reducible exact H | (rw [hy204]; exact H) | exact H
 have Ny204 := Aside0.mk hy204
 clear hy204
 have H' := Aside0.mk H
 clear H
 go_enter Tryz.func39, Tryz.ntmps39
 go_wp2_with (first | ((with_reducible refine gate_dst (N := 5) rfl ?_); refine Kd.R_lit (Kd.int .u8) _ 5 ?hg (N := 5) ?hd (xs := ([34] : List Int)) (inner := [.int .u8 34]) (ok := fun _ => True) (okp := fun _ => True) ?hr ?hp (fun _ hk => hk) trivial (Below.refl _ _) (Nat.le_refl _) zb26 ?_; (case hd => rfl); (case hg => rfl); (case hr => exact zb15); (case hp => exact zb29); intro v205 w2 ho3 hb hg_ hnew_; clear hg_ hnew_; (first | rw [← Ny204.out] at ho3 | (simp only [Int.reduceToNat] at ho3; rw [← Ny204.out] at ho3)); have HO206 := Aside0.mk (Kd.R_lower ho3 (below_size zb0)); replace HB := Aside0.mk (below_step zb0 hb); clear hb ho3))
 go_loopg [3, 4] k (fun kq v3 v4 w' => ∃ (x3_1 : List Int) (x4_1 : Int), v4 = .int .i64 x4_1 ∧ Aside0 (spec_Quote.l0 kq a0 x3_1 x4_1 = some r) ∧ Aside0 (kq ≤ k) ∧ Aside0 (Kd.R (Kd.int .u8) 5 w' w.heap.size (fun _ => True) v3 x3_1) ∧ Aside0 (Below w.heap.size w w'))
 case atStart => exact ⟨(y204), (0), zb7, H', ⟨Nat.le_refl _⟩, ⟨(zR HO206.out)⟩, ⟨zb0⟩⟩
 case round =>
  clear H'
  try clear p2
  try clear c3
  obtain ⟨x3_1, x4_1, rfl, HA, HK1, HO_3, HB⟩ := hrel
  cases gk with
  | zero => exact absurd HA.out (by simp [spec_Quote.l0])
  | succ k1 =>
   have H := HA.out
   clear HA
   simp only [spec_Quote.l0] at H
   by_cases c4 : x4_1 < (a0.size : Int)
   ·rw [if_pos c4] at H
    have c4b0 : decide (x4_1 < (a0.size : Int)) = true := decide_eq_true c4
    clear c4
    have HC5 := Aside0.mk H
    clear H
    go_upto_region 6 with (fail)
    go_cut [18] (fun v18 wc => ∃ (kq : Nat) (x18_4 : Bool), v18 = .bool x18_4 ∧ Aside0 (spec_Quote.j1 kq a0 x3_1 x4_1 x18_4 = some r) ∧ Aside0 (kq ≤ k1) ∧ Aside0 (Kd.R (Kd.int .u8) 5 wc w.heap.size (fun _ => True) u3 x3_1) ∧ Aside0 (Below w.heap.size w wc))
    case first =>
     have H := HC5.out
     clear HC5
     by_cases c6 : 0 ≤ x4_1
     ·rw [if_pos c6] at H
      have c6b0 : decide (0 ≤ x4_1) = true := decide_eq_true c6
      clear c6
      (first | rw [c6b0] | (simp only [i64_w, i32_w]; rw [c6b0]) | skip)
      by_cases c8 : (bt a0 x4_1) = 34
      ·rw [if_pos c8] at H
       have c8b0 : ((bt a0 x4_1) == 34) = true := beq_iff_eq.mpr c8
       have c8b1 : ((bt a0 x4_1) != 34) = false := bne_eq_false_iff_eq.mpr c8
       clear c8
       have H' := Aside0.mk H
       clear H
       have p7 : 0 ≤ (x4_1 : Int) := of_decide_eq_true zb5
       have q7 : x4_1 < (a0.size : Int) := of_decide_eq_true zb5
       have hx7 := bt_at a0 x4_1
       replace p7 := eq_true p7
       replace q7 := eq_true q7
       go_wp2
       go_meet
       case rel => exact ⟨_, (true), zb7, H', ⟨by have := HK1.out; first | omega | exact Nat.le_refl _⟩, ⟨(zR HO_3.out)⟩, ⟨zb0⟩⟩
      ·rw [if_neg c8] at H
       have c8b0 : ((bt a0 x4_1) == 34) = false := beq_eq_false_iff_ne.mpr c8
       have c8b1 : ((bt a0 x4_1) != 34) = true := bne_iff_ne.mpr c8
       have H' := Aside0.mk H
       clear H
       have p7 : 0 ≤ (x4_1 : Int) := of_decide_eq_true zb5
       have q7 : x4_1 < (a0.size : Int) := of_decide_eq_true zb5
       have hx7 := bt_at a0 x4_1
       replace p7 := eq_true p7
       replace q7 := eq_true q7
       have p9 : 0 ≤ (x4_1 : Int) := of_decide_eq_true zb5
       have q9 : x4_1 < (a0.size : Int) := of_decide_eq_true zb5
       have hx9 := bt_at a0 x4_1
       replace p9 := eq_true p9
       replace q9 := eq_true q9
       go_wp2
       go_meet
       case rel => exact ⟨_, (((bt a0 x4_1) == 92)), zb7, H', ⟨by have := HK1.out; first | omega | exact Nat.le_refl _⟩, ⟨(zR HO_3.out)⟩, ⟨zb0⟩⟩
     ·rw [if_neg c6] at H
      exact absurd H zb26
    case rest =>
     clear HC5
     try clear p2
     try clear c3
     try clear c4
     try clear c4b0
     try clear c6
     try clear c6b0
     try clear p7
     try clear q7
     try clear hx7
     try clear c8
     try clear c8b0
     try clear c8b1
     try clear p9
     try clear q9
     try clear hx9
     try clear p2
     try clear p7
     try clear p9
     try clear q7
     try clear q9
     obtain ⟨kq, x18_4, rfl, HA, HJ4, HO_3, HB⟩ := hcut
     cases kq with
     | zero => exact absurd HA.out (by simp [spec_Quote.j1])
     | succ kj4 =>
      have H := HA.out
      clear HA
      simp only [spec_Quote.j1] at H
      by_cases c10 : x18_4 = true
      ·subst c10
       rw [if_pos rfl] at H
       by_cases c11 : 0 ≤ x4_1
       ·rw [if_pos c11] at H
        have c11b0 : decide (0 ≤ x4_1) = true := decide_eq_true c11
        clear c11
        by_cases c12 : x4_1 < (a0.size : Int)
        ·rw [if_pos c12] at H
         have c12b0 : decide (x4_1 < (a0.size : Int)) = true := decide_eq_true c12
         clear c12
         obtain ⟨y210, hy210⟩ : ∃ y_ : List Int, y_ = (([92, bt a0 x4_1] : List Int)) := ⟨_, rfl⟩
         replace H : (if x3_1.length + y210.length < 140737488355328 then (spec_Quote.l0 kj4 a0 (x3_1 ++ y210) (wrap64 (x4_1 + 1))) else (none)) = some r := by first | (rw [hy210]; with_reducible exact H) | (have H2_ := (Option.bind_some _ _).symm.trans H; rw [hy210]; with_reducible exact H2_) | (have H2_ := (Option.bind_some _ _).symm.trans H; with_reducible exact H2_) | with_reducible exact H | (rw [hy210]; exact H) | exact H
         have Ny210 := Aside0.mk hy210
         clear hy210
         by_cases c14 : x3_1.length + y210.length < 140737488355328
         ·rw [if_pos c14] at H
          have LMc14 := Aside0.mk c14
          clear c14
          obtain ⟨y213, hy213⟩ : ∃ y_ : List Int, y_ = (x3_1 ++ y210) := ⟨_, rfl⟩
          replace H : (spec_Quote.l0 kj4 a0 y213 (wrap64 (x4_1 + 1))) = some r := by first | (rw [hy213]; with_reducible exact H) | (have H2_ := (Option.bind_some _ _).symm.trans H; rw [hy213]; with_reducible exact H2_) | (have H2_ := (Option.bind_some _ _).symm.trans H; with_reducible exact H2_) | with_reducible exact H | (rw [hy213]; exact H) | exact H
          have Ny213 := Aside0.mk hy213
          clear hy213
          have H' := Aside0.mk H
          clear H
          have p13 : 0 ≤ (x4_1 : Int) := of_decide_eq_true zb5
          have q13 : x4_1 < (a0.size : Int) := of_decide_eq_true zb5
          have hx13 := bt_at a0 x4_1
          replace p13 := eq_true p13
          replace q13 := eq_true q13
          go_wp2_with (first | ((with_reducible refine gate_dst (N := 33) rfl ?_); refine Kd.R_lit (Kd.int .u8) _ 5 ?hg (N := 33) ?hd (xs := ([92, bt a0 x4_1] : List Int)) (inner := [.int .u8 92, .int .u8 (bt a0 x4_1)]) (ok := fun _ => True) (okp := fun _ => True) ?hr ?hp (fun _ hk => hk) trivial (Below.refl _ _) (Nat.le_refl _) zb26 ?_; (case hd => rfl); (case hg => rfl); (case hr => exact zb15); (case hp => exact zb29); intro v211 w15 ho16 hb hg_ hnew_; clear hg_ hnew_; (first | rw [← Ny210.out] at ho16 | (simp only [Int.reduceToNat] at ho16; rw [← Ny210.out] at ho16)); have HO212 := Aside0.mk (Kd.R_lower (Kd.R_new' ho16 (Kd.R_lt (zR HO_3.out))) (below_size zb0)); replace HO_3 := Aside0.mk (Kd.R_elder' (zR HO_3.out) (Kd.R_base ho16) hb); replace HB := Aside0.mk (below_step zb0 hb); clear hb ho16; obtain ⟨Ao18, co18, eo18⟩ := Kd.R_slice HO212.out; subst eo18) | ((with_reducible refine gate_builtin (b := .append) (xs := #[.tmp 29, .tmp 33]) rfl ?_); at_builtin; refine Kd.R_append_rows (Kd.int .u8) (w0 := w) w.heap.size rfl (.tmp 29) (.tmp 33) 22 5 (.int .u8 0) 1 rfl Tryz.underlying22 info5 rfl zb33 zb40 u3 x3_1 y210 _ _ _ (fun k_ => some k_ ≠ (.slice Ao18 y210.length co18 : Value).ownBlock) (fun _ => False) rfl rfl ?aO ?aR (fun _ _ h => h) (fun _ h => h.elim) ?aF ?aB ?aS ?aL ?_; (case aR => repeat (first | exact (Kd.R_reads' HO212.out).2.2 | (with_reducible refine Kd.C_alloc ?_ _) | (with_reducible refine Kd.C_drewN ?_ _) | (with_reducible refine Kd.C_drew ?_))); (case aB => exact zb0); (case aF => exact (fun k_ hk => Kd.fresh' (Kd.R_lt (zR HO212.out)) k_ hk)); (case aO => exact (zR (Kd.R_mono HO_3.out (fun _ hk => hk.2)))); (case aS => exact (below_size zb0)); (case aL => have := LMc14.out; omega); intro v214 w17 ho hb hg hat; rw [← Ny213.out] at ho; replace HO212 := Aside0.mk (Kd.R_after (ok := (fun _ => True)) (zR HO212.out) hg hat); replace HB := Aside0.mk hb; have HO215 := Aside0.mk ho; clear HO_3 ho hb hg hat))
          go_roundg kj4
          case measure => have := HK1.out; have := HJ4.out; omega
          case rel => exact ⟨(y213), (wrap64 (x4_1 + 1)), zb7, H', ⟨by have := HK1.out; have := HJ4.out; omega⟩, ⟨(zR (Kd.R_mono HO215.out (fun _ hk => trivial)))⟩, ⟨zb0⟩⟩
         ·rw [if_neg c14] at H
          exact absurd H zb26
        ·rw [if_neg c12] at H
         exact absurd H zb26
       ·rw [if_neg c11] at H
        exact absurd H zb26
      ·replace c10 := Bool.eq_false_iff.mpr c10
       subst c10
       rw [if_neg (show ¬ (false = true) by decide)] at H
       by_cases c19 : 0 ≤ x4_1
       ·rw [if_pos c19] at H
        have c19b0 : decide (0 ≤ x4_1) = true := decide_eq_true c19
        clear c19
        by_cases c20 : x4_1 < (a0.size : Int)
        ·rw [if_pos c20] at H
         have c20b0 : decide (x4_1 < (a0.size : Int)) = true := decide_eq_true c20
         clear c20
         by_cases c22 : (bt a0 x4_1) = 10
         ·rw [if_pos c22] at H
          have c22b0 : ((bt a0 x4_1) == 10) = true := beq_iff_eq.mpr c22
          have c22b1 : ((bt a0 x4_1) != 10) = false := bne_eq_false_iff_eq.mpr c22
          clear c22
          obtain ⟨y216, hy216⟩ : ∃ y_ : List Int, y_ = (([92, 110] : List Int)) := ⟨_, rfl⟩
          replace H : (if x3_1.length + y216.length < 140737488355328 then (spec_Quote.l0 kj4 a0 (x3_1 ++ y216) (wrap64 (x4_1 + 1))) else (none)) = some r := by first | (rw [hy216]; with_reducible exact H) | (have H2_ := (Option.bind_some _ _).symm.trans H; rw [hy216]; with_reducible exact H2_) | (have H2_ := (Option.bind_some _ _).symm.trans H; with_reducible exact H2_) | with_reducible exact H | (rw [hy216]; exact H) | exact H
          have Ny216 := Aside0.mk hy216
          clear hy216
          by_cases c23 : x3_1.length + y216.length < 140737488355328
          ·rw [if_pos c23] at H
           have LMc23 := Aside0.mk c23
           clear c23
           obtain ⟨y219, hy219⟩ : ∃ y_ : List Int, y_ = (x3_1 ++ y216) := ⟨_, rfl⟩
           replace H : (spec_Quote.l0 kj4 a0 y219 (wrap64 (x4_1 + 1))) = some r := by first | (rw [hy219]; with_reducible exact H) | (have H2_ := (Option.bind_some _ _).symm.trans H; rw [hy219]; with_reducible exact H2_) | (have H2_ := (Option.bind_some _ _).symm.trans H; with_reducible exact H2_) | with_reducible exact H | (rw [hy219]; exact H) | exact H
           have Ny219 := Aside0.mk hy219
           clear hy219
           have H' := Aside0.mk H
           clear H
           have p21 : 0 ≤ (x4_1 : Int) := of_decide_eq_true zb5
           have q21 : x4_1 < (a0.size : Int) := of_decide_eq_true zb5
           have hx21 := bt_at a0 x4_1
           replace p21 := eq_true p21
           replace q21 := eq_true q21
           go_wp2_with (first | ((with_reducible refine gate_dst (N := 41) rfl ?_); refine Kd.R_lit (Kd.int .u8) _ 5 ?hg (N := 41) ?hd (xs := ([92, 110] : List Int)) (inner := [.int .u8 92, .int .u8 110]) (ok := fun _ => True) (okp := fun _ => True) ?hr ?hp (fun _ hk => hk) trivial (Below.refl _ _) (Nat.le_refl _) zb26 ?_; (case hd => rfl); (case hg => rfl); (case hr => exact zb15); (case hp => exact zb29); intro v217 w24 ho25 hb hg_ hnew_; clear hg_ hnew_; (first | rw [← Ny216.out] at ho25 | (simp only [Int.reduceToNat] at ho25; rw [← Ny216.out] at ho25)); have HO218 := Aside0.mk (Kd.R_lower (Kd.R_new' ho25 (Kd.R_lt (zR HO_3.out))) (below_size zb0)); replace HO_3 := Aside0.mk (Kd.R_elder' (zR HO_3.out) (Kd.R_base ho25) hb); replace HB := Aside0.mk (below_step zb0 hb); clear hb ho25; obtain ⟨Ao27, co27, eo27⟩ := Kd.R_slice HO218.out; subst eo27) | ((with_reducible refine gate_builtin (b := .append) (xs := #[.tmp 40, .tmp 41]) rfl ?_); at_builtin; refine Kd.R_append_rows (Kd.int .u8) (w0 := w) w.heap.size rfl (.tmp 40) (.tmp 41) 22 5 (.int .u8 0) 1 rfl Tryz.underlying22 info5 rfl zb33 zb40 u3 x3_1 y216 _ _ _ (fun k_ => some k_ ≠ (.slice Ao27 y216.length co27 : Value).ownBlock) (fun _ => False) rfl rfl ?aO ?aR (fun _ _ h => h) (fun _ h => h.elim) ?aF ?aB ?aS ?aL ?_; (case aR => repeat (first | exact (Kd.R_reads' HO218.out).2.2 | (with_reducible refine Kd.C_alloc ?_ _) | (with_reducible refine Kd.C_drewN ?_ _) | (with_reducible refine Kd.C_drew ?_))); (case aB => exact zb0); (case aF => exact (fun k_ hk => Kd.fresh' (Kd.R_lt (zR HO218.out)) k_ hk)); (case aO => exact (zR (Kd.R_mono HO_3.out (fun _ hk => hk.2)))); (case aS => exact (below_size zb0)); (case aL => have := LMc23.out; omega); intro v220 w26 ho hb hg hat; rw [← Ny219.out] at ho; replace HO218 := Aside0.mk (Kd.R_after (ok := (fun _ => True)) (zR HO218.out) hg hat); replace HB := Aside0.mk hb; have HO221 := Aside0.mk ho; clear HO_3 ho hb hg hat))
           go_roundg kj4
           case measure => have := HK1.out; have := HJ4.out; omega
           case rel => exact ⟨(y219), (wrap64 (x4_1 + 1)), zb7, H', ⟨by have := HK1.out; have := HJ4.out; omega⟩, ⟨(zR (Kd.R_mono HO221.out (fun _ hk => trivial)))⟩, ⟨zb0⟩⟩
          ·rw [if_neg c23] at H
           exact absurd H zb26
         ·rw [if_neg c22] at H
          have c22b0 : ((bt a0 x4_1) == 10) = false := beq_eq_false_iff_ne.mpr c22
          have c22b1 : ((bt a0 x4_1) != 10) = true := bne_iff_ne.mpr c22
          by_cases c29 : (bt a0 x4_1) < 32
          ·rw [if_pos c29] at H
           have c29b0 : decide ((bt a0 x4_1) < 32) = true := decide_eq_true c29
           clear c29
           obtain ⟨y222, hy222⟩ : ∃ y_ : List Int, y_ = (([92, 120] : List Int)) := ⟨_, rfl⟩
           replace H : (if x3_1.length + y222.length < 140737488355328 then ((some (x3_1 ++ y222 : List Int)).bind fun y225 => (if x4_1 ≤ (wrap64 (x4_1 + 1)) then (if (wrap64 (x4_1 + 1)) ≤ (a0.size : Int) then ((spec_PutHex.f kj4 (a0.extract (x4_1 : Int).toNat ((wrap64 (x4_1 + 1)) : Int).toNat)).bind fun t228 => (if y225.length + t228.size < 140737488355328 then (spec_Quote.l0 kj4 a0 (y225 ++ bytesOf t228) (wrap64 (x4_1 + 1))) else (none))) else (none)) else (none))) else (none)) = some r := by first | (rw [hy222]; with_reducible exact H) | (have H2_ := (Option.bind_some _ _).symm.trans H; rw [hy222]; with_reducible exact H2_) | (have H2_ := (Option.bind_some _ _).symm.trans H; with_reducible exact H2_) | with_reducible exact H | (rw [hy222]; exact H) | exact H
           have Ny222 := Aside0.mk hy222
           clear hy222
           by_cases c30 : x3_1.length + y222.length < 140737488355328
           ·rw [if_pos c30] at H
            have LMc30 := Aside0.mk c30
            clear c30
            obtain ⟨y225, hy225⟩ : ∃ y_ : List Int, y_ = (x3_1 ++ y222) := ⟨_, rfl⟩
            replace H : (if x4_1 ≤ (wrap64 (x4_1 + 1)) then (if (wrap64 (x4_1 + 1)) ≤ (a0.size : Int) then ((spec_PutHex.f kj4 (a0.extract (x4_1 : Int).toNat ((wrap64 (x4_1 + 1)) : Int).toNat)).bind fun t228 => (if y225.length + t228.size < 140737488355328 then (spec_Quote.l0 kj4 a0 (y225 ++ bytesOf t228) (wrap64 (x4_1 + 1))) else (none))) else (none)) else (none)) = some r := by first | (rw [hy225]; with_reducible exact H) | (have H2_ := (Option.bind_some _ _).symm.trans H; rw [hy225]; with_reducible exact H2_) | (have H2_ := (Option.bind_some _ _).symm.trans H; with_reducible exact H2_) | with_reducible exact H | (rw [hy225]; exact H) | exact H
            have Ny225 := Aside0.mk hy225
            clear hy225
            have c31b0 := eq_true (of_decide_eq_true zb5 : 0 ≤ x4_1)
            by_cases c32 : x4_1 ≤ (wrap64 (x4_1 + 1))
            ·rw [if_pos c32] at H
             have c32b0 := eq_true c32
             have c32b1 : decide (x4_1 ≤ (wrap64 (x4_1 + 1))) = true := decide_eq_true c32
             by_cases c33 : (wrap64 (x4_1 + 1)) ≤ (a0.size : Int)
             ·rw [if_pos c33] at H
              have c33b0 := eq_true c33
              have c33b1 : decide ((wrap64 (x4_1 + 1)) ≤ (a0.size : Int)) = true := decide_eq_true c33
              obtain ⟨js34, hjs34⟩ : ∃ j_ : ByteArray, (a0.extract (x4_1 : Int).toNat ((wrap64 (x4_1 + 1)) : Int).toNat) = j_ := ⟨_, rfl⟩
              replace H : ((spec_PutHex.f kj4 (js34)).bind fun t228 => (if y225.length + t228.size < 140737488355328 then (spec_Quote.l0 kj4 a0 (y225 ++ bytesOf t228) (wrap64 (x4_1 + 1))) else (none))) = some r := by first | (rw [hjs34] at H; exact H) | (simp only [hjs34] at H ⊢; exact H)
              replace H := Option.bind_eq_some_iff.mp H
              obtain ⟨t228, A350, H⟩ := H
              try dsimp only at H
              have A35 := Aside0.mk A350
              clear A350
              by_cases c36 : y225.length + t228.size < 140737488355328
              ·rw [if_pos c36] at H
               have LMc36 := Aside0.mk c36
               clear c36
               obtain ⟨y229, hy229⟩ : ∃ y_ : List Int, y_ = (y225 ++ bytesOf t228) := ⟨_, rfl⟩
               replace H : (spec_Quote.l0 kj4 a0 y229 (wrap64 (x4_1 + 1))) = some r := by first | (rw [hy229]; with_reducible exact H) | (have H2_ := (Option.bind_some _ _).symm.trans H; rw [hy229]; with_reducible exact H2_) | (have H2_ := (Option.bind_some _ _).symm.trans H; with_reducible exact H2_) | with_reducible exact H | (rw [hy229]; exact H) | exact H
               have Ny229 := Aside0.mk hy229
               clear hy229
               have H' := Aside0.mk H
               clear H
               have p21 : 0 ≤ (x4_1 : Int) := of_decide_eq_true zb5
               have q21 : x4_1 < (a0.size : Int) := of_decide_eq_true zb5
               have hx21 := bt_at a0 x4_1
               replace p21 := eq_true p21
               replace q21 := eq_true q21
               have p28 : 0 ≤ (x4_1 : Int) := of_decide_eq_true zb5
               have q28 : x4_1 < (a0.size : Int) := of_decide_eq_true zb5
               have hx28 := bt_at a0 x4_1
               replace p28 := eq_true p28
               replace q28 := eq_true q28
               go_wp2_with (first | ((with_reducible refine gate_dst (N := 55) rfl ?_); refine Kd.R_lit (Kd.int .u8) _ 5 ?hg (N := 55) ?hd (xs := ([92, 120] : List Int)) (inner := [.int .u8 92, .int .u8 120]) (ok := fun _ => True) (okp := fun _ => True) ?hr ?hp (fun _ hk => hk) trivial (Below.refl _ _) (Nat.le_refl _) zb26 ?_; (case hd => rfl); (case hg => rfl); (case hr => exact zb15); (case hp => exact zb29); intro v223 w37 ho38 hb hg_ hnew_; clear hg_ hnew_; (first | rw [← Ny222.out] at ho38 | (simp only [Int.reduceToNat] at ho38; rw [← Ny222.out] at ho38)); have HO224 := Aside0.mk (Kd.R_lower (Kd.R_new' ho38 (Kd.R_lt (zR HO_3.out))) (below_size zb0)); replace HO_3 := Aside0.mk (Kd.R_elder' (zR HO_3.out) (Kd.R_base ho38) hb); replace HB := Aside0.mk (below_step zb0 hb); clear hb ho38; obtain ⟨Ao40, co40, eo40⟩ := Kd.R_slice HO224.out; subst eo40) | ((with_reducible refine gate_builtin (b := .append) (xs := #[.tmp 54, .tmp 55]) rfl ?_); at_builtin; refine Kd.R_append_rows (Kd.int .u8) (w0 := w) w.heap.size rfl (.tmp 54) (.tmp 55) 22 5 (.int .u8 0) 1 rfl Tryz.underlying22 info5 rfl zb33 zb40 u3 x3_1 y222 _ _ _ (fun k_ => some k_ ≠ (.slice Ao40 y222.length co40 : Value).ownBlock) (fun _ => False) rfl rfl ?aO ?aR (fun _ _ h => h) (fun _ h => h.elim) ?aF ?aB ?aS ?aL ?_; (case aR => repeat (first | exact (Kd.R_reads' HO224.out).2.2 | (with_reducible refine Kd.C_alloc ?_ _) | (with_reducible refine Kd.C_drewN ?_ _) | (with_reducible refine Kd.C_drew ?_))); (case aB => exact zb0); (case aF => exact (fun k_ hk => Kd.fresh' (Kd.R_lt (zR HO224.out)) k_ hk)); (case aO => exact (zR (Kd.R_mono HO_3.out (fun _ hk => hk.2)))); (case aS => exact (below_size zb0)); (case aL => have := LMc30.out; omega); intro v226 w39 ho hb hg hat; rw [← Ny225.out] at ho; replace HO224 := Aside0.mk (Kd.R_after (ok := (fun _ => True)) (zR HO224.out) hg hat); replace HB := Aside0.mk hb; have HO227 := Aside0.mk ho; clear HO_3 ho hb hg hat) | ((with_reducible refine gate_callee (f := 86) rfl ?_); refine goesL_ (some 63) rfl rfl Tryz.func86 zb13 rfl #[.string js34] rfl zb2 ?_; (with_reducible refine (spec_PutHex.calls kj4 js34 t228 _ A35.out).mono ?_); rintro e w41 ⟨rfl, hb⟩; refine ⟨_, rfl, ?_⟩; replace HO224 := Aside0.mk (Kd.R_below (zR HO224.out) hb); replace HO227 := Aside0.mk (Kd.R_below (zR HO227.out) hb); replace HB := Aside0.mk (below_step zb0 hb); (try clear hb)) | (at_builtin; refine print_append_str (w0 := w) w.heap.size rfl (.tmp 57) _ 22 9 5 rfl Tryz.underlying22 Tryz.underlying9 info5 v226 y225 t228 rfl rfl ?aO ?aB ?aS ?aL ?_; (case aB => exact zb0); (case aO => exact (Kd.own_of_R (zR (Kd.R_mono HO227.out (fun _ hk => trivial))))); (case aS => exact (below_size zb0)); (case aL => have := LMc36.out; omega); intro v230 w42 ho0 hb hg; have ho := Kd.R_of_own (h1 := fun _ => rfl) (ok := fun _ => True) ho0 (fun _ _ => trivial); clear ho0; have hat := True.intro; rw [← Ny229.out] at ho; change Kd.R (Kd.int .u8) 5 w42 w.heap.size (fun _ => True) v230 y229 at ho; replace HB := Aside0.mk hb; have HO231 := Aside0.mk ho; clear HO227 ho hb hg hat))
               go_roundg kj4
               case measure => have := HK1.out; have := HJ4.out; omega
               case rel => exact ⟨(y229), (wrap64 (x4_1 + 1)), zb7, H', ⟨by have := HK1.out; have := HJ4.out; omega⟩, ⟨(zR HO231.out)⟩, ⟨zb0⟩⟩
              ·rw [if_neg c36] at H
               exact absurd H zb26
             ·rw [if_neg c33] at H
              exact absurd H zb26
            ·rw [if_neg c32] at H
             exact absurd H zb26
           ·rw [if_neg c30] at H
            exact absurd H zb26
          ·rw [if_neg c29] at H
           have c29b0 : decide ((bt a0 x4_1) < 32) = false := decide_eq_false c29
           clear c29
           by_cases c44 : (bt a0 x4_1) > 126
           ·rw [if_pos c44] at H
            have c44b0 : decide (126 < (bt a0 x4_1)) = true := decide_eq_true c44
            clear c44
            obtain ⟨y232, hy232⟩ : ∃ y_ : List Int, y_ = (([92, 120] : List Int)) := ⟨_, rfl⟩
            replace H : (if x3_1.length + y232.length < 140737488355328 then ((some (x3_1 ++ y232 : List Int)).bind fun y235 => (if x4_1 ≤ (wrap64 (x4_1 + 1)) then (if (wrap64 (x4_1 + 1)) ≤ (a0.size : Int) then ((spec_PutHex.f kj4 (a0.extract (x4_1 : Int).toNat ((wrap64 (x4_1 + 1)) : Int).toNat)).bind fun t238 => (if y235.length + t238.size < 140737488355328 then (spec_Quote.l0 kj4 a0 (y235 ++ bytesOf t238) (wrap64 (x4_1 + 1))) else (none))) else (none)) else (none))) else (none)) = some r := by first | (rw [hy232]; with_reducible exact H) | (have H2_ := (Option.bind_some _ _).symm.trans H; rw [hy232]; with_reducible exact H2_) | (have H2_ := (Option.bind_some _ _).symm.trans H; with_reducible exact H2_) | with_reducible exact H | (rw [hy232]; exact H) | exact H
            have Ny232 := Aside0.mk hy232
            clear hy232
            by_cases c45 : x3_1.length + y232.length < 140737488355328
            ·rw [if_pos c45] at H
             have LMc45 := Aside0.mk c45
             clear c45
             obtain ⟨y235, hy235⟩ : ∃ y_ : List Int, y_ = (x3_1 ++ y232) := ⟨_, rfl⟩
             replace H : (if x4_1 ≤ (wrap64 (x4_1 + 1)) then (if (wrap64 (x4_1 + 1)) ≤ (a0.size : Int) then ((spec_PutHex.f kj4 (a0.extract (x4_1 : Int).toNat ((wrap64 (x4_1 + 1)) : Int).toNat)).bind fun t238 => (if y235.length + t238.size < 140737488355328 then (spec_Quote.l0 kj4 a0 (y235 ++ bytesOf t238) (wrap64 (x4_1 + 1))) else (none))) else (none)) else (none)) = some r := by first | (rw [hy235]; with_reducible exact H) | (have H2_ := (Option.bind_some _ _).symm.trans H; rw [hy235]; with_reducible exact H2_) | (have H2_ := (Option.bind_some _ _).symm.trans H; with_reducible exact H2_) | with_reducible exact H | (rw [hy235]; exact H) | exact H
             have Ny235 := Aside0.mk hy235
             clear hy235
             have c46b0 := eq_true (of_decide_eq_true zb5 : 0 ≤ x4_1)
             by_cases c47 : x4_1 ≤ (wrap64 (x4_1 + 1))
             ·rw [if_pos c47] at H
              have c47b0 := eq_true c47
              have c47b1 : decide (x4_1 ≤ (wrap64 (x4_1 + 1))) = true := decide_eq_true c47
              by_cases c48 : (wrap64 (x4_1 + 1)) ≤ (a0.size : Int)
              ·rw [if_pos c48] at H
               have c48b0 := eq_true c48
               have c48b1 : decide ((wrap64 (x4_1 + 1)) ≤ (a0.size : Int)) = true := decide_eq_true c48
               obtain ⟨js49, hjs49⟩ : ∃ j_ : ByteArray, (a0.extract (x4_1 : Int).toNat ((wrap64 (x4_1 + 1)) : Int).toNat) = j_ := ⟨_, rfl⟩
               replace H : ((spec_PutHex.f kj4 (js49)).bind fun t238 => (if y235.length + t238.size < 140737488355328 then (spec_Quote.l0 kj4 a0 (y235 ++ bytesOf t238) (wrap64 (x4_1 + 1))) else (none))) = some r := by first | (rw [hjs49] at H; exact H) | (simp only [hjs49] at H ⊢; exact H)
               replace H := Option.bind_eq_some_iff.mp H
               obtain ⟨t238, A500, H⟩ := H
               try dsimp only at H
               have A50 := Aside0.mk A500
               clear A500
               by_cases c51 : y235.length + t238.size < 140737488355328
               ·rw [if_pos c51] at H
                have LMc51 := Aside0.mk c51
                clear c51
                obtain ⟨y239, hy239⟩ : ∃ y_ : List Int, y_ = (y235 ++ bytesOf t238) := ⟨_, rfl⟩
                replace H : (spec_Quote.l0 kj4 a0 y239 (wrap64 (x4_1 + 1))) = some r := by first | (rw [hy239]; with_reducible exact H) | (have H2_ := (Option.bind_some _ _).symm.trans H; rw [hy239]; with_reducible exact H2_) | (have H2_ := (Option.bind_some _ _).symm.trans H; with_reducible exact H2_) | with_reducible exact H | (rw [hy239]; exact H) | exact H
                have Ny239 := Aside0.mk hy239
                clear hy239
                have H' := Aside0.mk H
                clear H
                have p21 : 0 ≤ (x4_1 : Int) := of_decide_eq_true zb5
                have q21 : x4_1 < (a0.size : Int) := of_decide_eq_true zb5
                have hx21 := bt_at a0 x4_1
                replace p21 := eq_true p21
                replace q21 := eq_true q21
                have p28 : 0 ≤ (x4_1 : Int) := of_decide_eq_true zb5
                have q28 : x4_1 < (a0.size : Int) := of_decide_eq_true zb5
                have hx28 := bt_at a0 x4_1
                replace p28 := eq_true p28
                replace q28 := eq_true q28
                have p43 : 0 ≤ (x4_1 : Int) := of_decide_eq_true zb5
                have q43 : x4_1 < (a0.size : Int) := of_decide_eq_true zb5
                have hx43 := bt_at a0 x4_1
                replace p43 := eq_true p43
                replace q43 := eq_true q43
                go_wp2_with (first | ((with_reducible refine gate_dst (N := 55) rfl ?_); refine Kd.R_lit (Kd.int .u8) _ 5 ?hg (N := 55) ?hd (xs := ([92, 120] : List Int)) (inner := [.int .u8 92, .int .u8 120]) (ok := fun _ => True) (okp := fun _ => True) ?hr ?hp (fun _ hk => hk) trivial (Below.refl _ _) (Nat.le_refl _) zb26 ?_; (case hd => rfl); (case hg => rfl); (case hr => exact zb15); (case hp => exact zb29); intro v233 w52 ho53 hb hg_ hnew_; clear hg_ hnew_; (first | rw [← Ny232.out] at ho53 | (simp only [Int.reduceToNat] at ho53; rw [← Ny232.out] at ho53)); have HO234 := Aside0.mk (Kd.R_lower (Kd.R_new' ho53 (Kd.R_lt (zR HO_3.out))) (below_size zb0)); replace HO_3 := Aside0.mk (Kd.R_elder' (zR HO_3.out) (Kd.R_base ho53) hb); replace HB := Aside0.mk (below_step zb0 hb); clear hb ho53; obtain ⟨Ao55, co55, eo55⟩ := Kd.R_slice HO234.out; subst eo55) | ((with_reducible refine gate_builtin (b := .append) (xs := #[.tmp 54, .tmp 55]) rfl ?_); at_builtin; refine Kd.R_append_rows (Kd.int .u8) (w0 := w) w.heap.size rfl (.tmp 54) (.tmp 55) 22 5 (.int .u8 0) 1 rfl Tryz.underlying22 info5 rfl zb33 zb40 u3 x3_1 y232 _ _ _ (fun k_ => some k_ ≠ (.slice Ao55 y232.length co55 : Value).ownBlock) (fun _ => False) rfl rfl ?aO ?aR (fun _ _ h => h) (fun _ h => h.elim) ?aF ?aB ?aS ?aL ?_; (case aR => repeat (first | exact (Kd.R_reads' HO234.out).2.2 | (with_reducible refine Kd.C_alloc ?_ _) | (with_reducible refine Kd.C_drewN ?_ _) | (with_reducible refine Kd.C_drew ?_))); (case aB => exact zb0); (case aF => exact (fun k_ hk => Kd.fresh' (Kd.R_lt (zR HO234.out)) k_ hk)); (case aO => exact (zR (Kd.R_mono HO_3.out (fun _ hk => hk.2)))); (case aS => exact (below_size zb0)); (case aL => have := LMc45.out; omega); intro v236 w54 ho hb hg hat; rw [← Ny235.out] at ho; replace HO234 := Aside0.mk (Kd.R_after (ok := (fun _ => True)) (zR HO234.out) hg hat); replace HB := Aside0.mk hb; have HO237 := Aside0.mk ho; clear HO_3 ho hb hg hat) | ((with_reducible refine gate_callee (f := 86) rfl ?_); refine goesL_ (some 63) rfl rfl Tryz.func86 zb13 rfl #[.string js49] rfl zb2 ?_; (with_reducible refine (spec_PutHex.calls kj4 js49 t238 _ A50.out).mono ?_); rintro e w56 ⟨rfl, hb⟩; refine ⟨_, rfl, ?_⟩; replace HO234 := Aside0.mk (Kd.R_below (zR HO234.out) hb); replace HO237 := Aside0.mk (Kd.R_below (zR HO237.out) hb); replace HB := Aside0.mk (below_step zb0 hb); (try clear hb)) | (at_builtin; refine print_append_str (w0 := w) w.heap.size rfl (.tmp 57) _ 22 9 5 rfl Tryz.underlying22 Tryz.underlying9 info5 v236 y235 t238 rfl rfl ?aO ?aB ?aS ?aL ?_; (case aB => exact zb0); (case aO => exact (Kd.own_of_R (zR (Kd.R_mono HO237.out (fun _ hk => trivial))))); (case aS => exact (below_size zb0)); (case aL => have := LMc51.out; omega); intro v240 w57 ho0 hb hg; have ho := Kd.R_of_own (h1 := fun _ => rfl) (ok := fun _ => True) ho0 (fun _ _ => trivial); clear ho0; have hat := True.intro; rw [← Ny239.out] at ho; change Kd.R (Kd.int .u8) 5 w57 w.heap.size (fun _ => True) v240 y239 at ho; replace HB := Aside0.mk hb; have HO241 := Aside0.mk ho; clear HO237 ho hb hg hat))
                go_roundg kj4
                case measure => have := HK1.out; have := HJ4.out; omega
                case rel => exact ⟨(y239), (wrap64 (x4_1 + 1)), zb7, H', ⟨by have := HK1.out; have := HJ4.out; omega⟩, ⟨(zR HO241.out)⟩, ⟨zb0⟩⟩
               ·rw [if_neg c51] at H
                exact absurd H zb26
              ·rw [if_neg c48] at H
               exact absurd H zb26
             ·rw [if_neg c47] at H
              exact absurd H zb26
            ·rw [if_neg c45] at H
             exact absurd H zb26
           ·rw [if_neg c44] at H
            have c44b0 : decide (126 < (bt a0 x4_1)) = false := decide_eq_false c44
            clear c44
            by_cases c59 : x3_1.length < 140737488355328
            ·rw [if_pos c59] at H
             have LMc59 := Aside0.mk c59
             clear c59
             obtain ⟨y242, hy242⟩ : ∃ y_ : List Int, y_ = (x3_1 ++ [bt a0 x4_1]) := ⟨_, rfl⟩
             replace H : (spec_Quote.l0 kj4 a0 y242 (wrap64 (x4_1 + 1))) = some r := by first | (rw [hy242]; with_reducible exact H) | (have H2_ := (Option.bind_some _ _).symm.trans H; rw [hy242]; with_reducible exact H2_) | (have H2_ := (Option.bind_some _ _).symm.trans H; with_reducible exact H2_) | with_reducible exact H | (rw [hy242]; exact H) | exact H
             have Ny242 := Aside0.mk hy242
             clear hy242
             have H' := Aside0.mk H
             clear H
             have p21 : 0 ≤ (x4_1 : Int) := of_decide_eq_true zb5
             have q21 : x4_1 < (a0.size : Int) := of_decide_eq_true zb5
             have hx21 := bt_at a0 x4_1
             replace p21 := eq_true p21
             replace q21 := eq_true q21
             have p28 : 0 ≤ (x4_1 : Int) := of_decide_eq_true zb5
             have q28 : x4_1 < (a0.size : Int) := of_decide_eq_true zb5
             have hx28 := bt_at a0 x4_1
             replace p28 := eq_true p28
             replace q28 := eq_true q28
             have p43 : 0 ≤ (x4_1 : Int) := of_decide_eq_true zb5
             have q43 : x4_1 < (a0.size : Int) := of_decide_eq_true zb5
             have hx43 := bt_at a0 x4_1
             replace p43 := eq_true p43
             replace q43 := eq_true q43
             have p58 : 0 ≤ (x4_1 : Int) := of_decide_eq_true zb5
             have q58 : x4_1 < (a0.size : Int) := of_decide_eq_true zb5
             have hx58 := bt_at a0 x4_1
             replace p58 := eq_true p58
             replace q58 := eq_true q58
             go_wp2_with (first | ((with_reducible refine gate_builtin (b := .append) (xs := #[.tmp 12, .tmp 16]) rfl ?_); at_builtin; refine Kd.R_append (Kd.int .u8) (w0 := w) w.heap.size rfl (.tmp 12) (.tmp 16) 22 5 (.int .u8 0) 1 rfl Tryz.underlying22 info5 rfl zb33 zb40 u3 x3_1 (bt a0 x4_1) [.int .u8 (bt a0 x4_1)] (fun _ => True) (fun _ => False) rfl rfl ?aP (fun _ hk => hk.elim) ?aF ?aO ?aB ?aS ?aL ?_; (case aP => exact rfl); (case aB => exact zb0); (case aF => exact (fun _ _ => trivial)); (case aO => exact (zR HO_3.out)); (case aS => exact (below_size zb0)); (case aL => have := LMc59.out; omega); intro v243 w60 ho hb hg hat; rw [← Ny242.out] at ho; replace HB := Aside0.mk hb; have HO244 := Aside0.mk ho; clear HO_3 ho hb hg hat))
             go_roundg kj4
             case measure => have := HK1.out; have := HJ4.out; omega
             case rel => exact ⟨(y242), (wrap64 (x4_1 + 1)), zb7, H', ⟨by have := HK1.out; have := HJ4.out; omega⟩, ⟨(zR HO244.out)⟩, ⟨zb0⟩⟩
            ·rw [if_neg c59] at H
             exact absurd H zb26
        ·rw [if_neg c20] at H
         exact absurd H zb26
       ·rw [if_neg c19] at H
        exact absurd H zb26
   ·rw [if_neg c4] at H
    have c4b0 : decide (x4_1 < (a0.size : Int)) = false := decide_eq_false c4
    clear c4
    by_cases c61 : x3_1.length < 140737488355328
    ·rw [if_pos c61] at H
     have LMc61 := Aside0.mk c61
     clear c61
     obtain ⟨y207, hy207⟩ : ∃ y_ : List Int, y_ = (x3_1 ++ [34]) := ⟨_, rfl⟩
     replace H : (some (strOfNums y207)) = some r := by first | (rw [hy207]; with_reducible exact H) | (have H2_ := (Option.bind_some _ _).symm.trans H; rw [hy207]; with_reducible exact H2_) | (have H2_ := (Option.bind_some _ _).symm.trans H; with_reducible exact H2_) | with_reducible exact H | (rw [hy207]; exact H) | exact H
     have Ny207 := Aside0.mk hy207
     clear hy207
     obtain rfl := Option.some.inj H
     go_wp2_with (first | ((with_reducible refine gate_builtin (b := .append) (xs := #[.tmp 65, .tmp 66]) rfl ?_); at_builtin; refine Kd.R_append (Kd.int .u8) (w0 := w) w.heap.size rfl (.tmp 65) (.tmp 66) 22 5 (.int .u8 0) 1 rfl Tryz.underlying22 info5 rfl zb33 zb40 u3 x3_1 34 [.int .u8 34] (fun _ => True) (fun _ => False) rfl rfl ?aP (fun _ hk => hk.elim) ?aF ?aO ?aB ?aS ?aL ?_; (case aP => exact rfl); (case aB => exact zb0); (case aF => exact (fun _ _ => trivial)); (case aO => exact (zR HO_3.out)); (case aS => exact (below_size zb0)); (case aL => have := LMc61.out; omega); intro v208 w62 ho hb hg hat; rw [← Ny207.out] at ho; replace HB := Aside0.mk hb; have HO209 := Aside0.mk ho; clear HO_3 ho hb hg hat; have hcv63 := own_string (P := Tryz.prog) Tryz.underlying22 Tryz.underlying5 Tryz.underlying9 (Kd.own_of_R HO209.out); have hcvd64 := fun n_ : Nat => own_string (P := Tryz.prog) Tryz.underlying22 Tryz.underlying5 Tryz.underlying9 (Kd.own_of_R (Kd.R_drewN HO209.out n_))))
     go_ret
     exact ⟨zb8, zb0⟩
    ·rw [if_neg c61] at H
     exact absurd H zb26
def spec_l01Bent.T6 : Bool × List (List Nat × List Nat) := (true, [([], []), ([], []), ([0, 1], [0, 1]), ([], []), ([], []), ([3, 4], [3, 4]), ([2, 5], [2, 5]), ([], []), ([], []), ([7, 8], [7, 8]), ([6, 9], [6, 9]), ([10, 5, 0, 1, 2, 3, 4, 5, 6, 7, 8, 9, 10], [10])])
def spec_l01Bent.B6 : List Nat := [0, 0, 3, 0, 0, 24, 63, 0, 0, 384, 1023, 2047]
theorem spec_l01Bent.tab6 : rtab .any (opsOf Tryz.f56 6) = spec_l01Bent.T6 := by kernel_rfl
theorem spec_l01Bent.bits6 : waitsOk spec_l01Bent.T6.2 spec_l01Bent.B6 = true := by kernel_rfl
def spec_l01Bent.T9 : Bool × List (List Nat × List Nat) := (true, [([], []), ([], []), ([0, 1], [0, 1]), ([], []), ([], []), ([3, 4], [3, 4]), ([2, 5], [2, 5]), ([], []), ([], []), ([8], [8]), ([7, 9], [7, 9]), ([6, 10], [6, 10]), ([11, 5, 0, 1, 2, 3, 4, 5, 6, 7, 8, 9, 10, 11], [11])])
def spec_l01Bent.B9 : List Nat := [0, 0, 3, 0, 0, 24, 63, 0, 0, 256, 896, 2047, 4095]
theorem spec_l01Bent.tab9 : rtab .any (opsOf Tryz.f56 9) = spec_l01Bent.T9 := by kernel_rfl
theorem spec_l01Bent.bits9 : waitsOk spec_l01Bent.T9.2 spec_l01Bent.B9 = true := by kernel_rfl
set_option maxHeartbeats 8000000 in
set_option maxRecDepth 100000 in
theorem spec_l01Bent.calls (g : Nat) (s0_0 : List Int) (s0_1 : Int) (s0_2 : Int) (a1 : ByteArray) (r1 : ByteArray) (r2 : Int) (r3 : Int) (w0 w : World) (hI : IsS85 w0 w g s0_0 s0_1 s0_2) (hB : Below w0.heap.size w0 w) (h : spec_l01Bent.f s0_0 s0_1 s0_2 a1 = some (r1, r2, r3)) :
  Calls Tryz.prog 56 #[.pointer (some ⟨g, 0, none⟩), .string a1] w fun e w' => e = .returned (.string r1) ∧ IsS85 w0 w' g s0_0 r2 r3 ∧ Below w0.heap.size w0 w' ∧ KeepBut w w' g none := by
 have HI0 := Aside0.mk hI
 have HK := Aside0.mk (KeepBut.refl w g none)
 have HL := Aside0.mk hB.size
 clear hI
 have HW0 := Aside0.mk hB.size
 have HB := Aside0.mk hB
 clear hB
 have H : ((spec_l01Below.f s0_0 s0_1 s0_2 (wrap64 ((a1.size : Int) + 1))).bind fun bt245 => ((spec_l01Below.f s0_0 bt245.2.1 bt245.2.2 8).bind fun bt248 => (if bt248.1 = 0 then (if 0 ≤ bt245.1 then (if bt245.1 ≤ (a1.size : Int) then (some (a1.extract 0 (bt245.1 : Int).toNat, bt248.2.1, bt248.2.2)) else (none)) else (none)) else (if bt248.1 = 1 then (if 0 ≤ bt245.1 then (if bt245.1 ≤ (a1.size : Int) then ((spec_l01Pick.f s0_0 bt248.2.1 bt248.2.2 (([(⟨#[48]⟩ : ByteArray), (⟨#[32]⟩ : ByteArray), (⟨#[255]⟩ : ByteArray), (⟨#[34]⟩ : ByteArray), (⟨#[10]⟩ : ByteArray), (⟨#[97]⟩ : ByteArray), (⟨#[44]⟩ : ByteArray), (⟨#[61]⟩ : ByteArray)] : List ByteArray))).bind fun bt254 => (if (a1.extract 0 (bt245.1 : Int).toNat).size + bt254.1.size ≤ 9223372036854775807 then (if ((a1.extract 0 (bt245.1 : Int).toNat) ++ bt254.1).size + (a1.extract (bt245.1 : Int).toNat a1.size).size ≤ 9223372036854775807 then (some (((a1.extract 0 (bt245.1 : Int).toNat) ++ bt254.1) ++ (a1.extract (bt245.1 : Int).toNat a1.size), bt254.2.1, bt254.2.2)) else (none)) else (none))) else (none)) else (none)) else (if bt248.1 = 2 then (if bt245.1 < (a1.size : Int) then (if 0 ≤ bt245.1 then (if bt245.1 ≤ (a1.size : Int) then ((spec_l01Pick.f s0_0 bt248.2.1 bt248.2.2 (([(⟨#[48]⟩ : ByteArray), (⟨#[65]⟩ : ByteArray), (⟨#[0]⟩ : ByteArray), (⟨#[57]⟩ : ByteArray), (⟨#[93]⟩ : ByteArray), (⟨#[92]⟩ : ByteArray)] : List ByteArray))).bind fun bt260 => (if (a1.extract 0 (bt245.1 : Int).toNat).size + bt260.1.size ≤ 9223372036854775807 then (if 0 ≤ (wrap64 (bt245.1 + 1)) then (if (wrap64 (bt245.1 + 1)) ≤ (a1.size : Int) then (if ((a1.extract 0 (bt245.1 : Int).toNat) ++ bt260.1).size + (a1.extract ((wrap64 (bt245.1 + 1)) : Int).toNat a1.size).size ≤ 9223372036854775807 then (some (((a1.extract 0 (bt245.1 : Int).toNat) ++ bt260.1) ++ (a1.extract ((wrap64 (bt245.1 + 1)) : Int).toNat a1.size), bt260.2.1, bt260.2.2)) else (none)) else (none)) else (none)) else (none))) else (none)) else (none)) else (some (a1, bt248.2.1, bt248.2.2))) else (some (a1, bt248.2.1, bt248.2.2))))))) = some (r1, r2, r3) := h
 clear h
 replace H := Option.bind_eq_some_iff.mp H
 obtain ⟨⟨t245, t246, t247⟩, A30, H⟩ := H
 try dsimp only at H
 have A3 := Aside0.mk A30
 clear A30
 replace H := Option.bind_eq_some_iff.mp H
 obtain ⟨⟨t248, t249, t250⟩, A40, H⟩ := H
 try dsimp only at H
 have A4 := Aside0.mk A40
 clear A40
 by_cases c5 : t248 = 0
 ·rw [if_pos c5] at H
  have c5b0 : (t248 == 0) = true := beq_iff_eq.mpr c5
  have c5b1 : (t248 != 0) = false := bne_eq_false_iff_eq.mpr c5
  clear c5
  by_cases c6 : 0 ≤ t245
  ·rw [if_pos c6] at H
   have c6b0 := eq_true c6
   have c6b1 : decide (0 ≤ t245) = true := decide_eq_true c6
   clear c6
   by_cases c7 : t245 ≤ (a1.size : Int)
   ·rw [if_pos c7] at H
    have c7b0 := eq_true c7
    have c7b1 : decide (t245 ≤ (a1.size : Int)) = true := decide_eq_true c7
    clear c7
    obtain ⟨js8, hjs8⟩ : ∃ j_ : ByteArray, (a1.extract 0 (t245 : Int).toNat) = j_ := ⟨_, rfl⟩
    replace H : (some (js8, t249, t250)) = some (r1, r2, r3) := by first | (rw [hjs8] at H; exact H) | (simp only [hjs8] at H ⊢; exact H)
    (try rw [hjs8] at A3)
    (try rw [hjs8] at A4)
    simp only [Option.some.injEq, Prod.mk.injEq] at H
    obtain ⟨rfl, rfl, rfl⟩ := H
    go_enter Tryz.func56, Tryz.ntmps56
    go_wp2_with (first | ((with_reducible refine gate_callee (f := 79) rfl ?_); refine goesL_ (some 10) rfl rfl Tryz.func79 zb13 rfl #[.pointer (some ⟨g, 0, none⟩), .int .i64 (wrap64 ((a1.size : Int) + 1))] rfl zb2 ?_; (with_reducible refine (spec_l01Below.calls g s0_0 s0_1 s0_2 (wrap64 ((a1.size : Int) + 1)) t245 t246 t247 w0 _ ?side1 ?side2 A3.out).mono ?_); (case side1 => exact zb1); (case side2 => exact zb3); rintro e w9 ⟨rfl, hi, hb, hk⟩; refine ⟨_, rfl, ?_⟩; replace HK := Aside0.mk (KeepBut.trans zb4 hk (.inl rfl)); replace HB := Aside0.mk hb; replace HI0 := Aside0.mk hi; (try clear hb); (try clear hb2); (try clear hk); (try clear hi)) | ((with_reducible refine gate_callee (f := 79) rfl ?_); refine goesL_ (some 12) rfl rfl Tryz.func79 zb13 rfl #[.pointer (some ⟨g, 0, none⟩), .int .i64 8] rfl zb2 ?_; (with_reducible refine (spec_l01Below.calls g s0_0 t246 t247 8 t248 t249 t250 w0 _ ?side1 ?side2 A4.out).mono ?_); (case side1 => exact zb1); (case side2 => exact zb3); rintro e w10 ⟨rfl, hi, hb, hk⟩; refine ⟨_, rfl, ?_⟩; replace HK := Aside0.mk (KeepBut.trans zb4 hk (.inl rfl)); replace HB := Aside0.mk hb; replace HI0 := Aside0.mk hi; (try clear hb); (try clear hb2); (try clear hk); (try clear hi)))
    go_ret
    exact ⟨(by first | rfl | (simp [errW_none, errW_some] <;> rfl) | (simp only [← hjs8]; first | rfl | (simp [errW_none, errW_some] <;> rfl)) | (simp [*, errW_none, errW_some] <;> rfl)), zb1, zb3, zb4⟩
   ·rw [if_neg c7] at H
    exact absurd H zb26
  ·rw [if_neg c6] at H
   exact absurd H zb26
 ·rw [if_neg c5] at H
  have c5b0 : (t248 == 0) = false := beq_eq_false_iff_ne.mpr c5
  have c5b1 : (t248 != 0) = true := bne_iff_ne.mpr c5
  by_cases c11 : t248 = 1
  ·rw [if_pos c11] at H
   have c11b0 : (t248 == 1) = true := beq_iff_eq.mpr c11
   have c11b1 : (t248 != 1) = false := bne_eq_false_iff_eq.mpr c11
   clear c11
   by_cases c12 : 0 ≤ t245
   ·rw [if_pos c12] at H
    have c12b0 := eq_true c12
    have c12b1 : decide (0 ≤ t245) = true := decide_eq_true c12
    clear c12
    by_cases c13 : t245 ≤ (a1.size : Int)
    ·rw [if_pos c13] at H
     have c13b0 := eq_true c13
     have c13b1 : decide (t245 ≤ (a1.size : Int)) = true := decide_eq_true c13
     clear c13
     obtain ⟨js14, hjs14⟩ : ∃ j_ : ByteArray, (a1.extract 0 (t245 : Int).toNat) = j_ := ⟨_, rfl⟩
     replace H : ((spec_l01Pick.f s0_0 t249 t250 (([(⟨#[48]⟩ : ByteArray), (⟨#[32]⟩ : ByteArray), (⟨#[255]⟩ : ByteArray), (⟨#[34]⟩ : ByteArray), (⟨#[10]⟩ : ByteArray), (⟨#[97]⟩ : ByteArray), (⟨#[44]⟩ : ByteArray), (⟨#[61]⟩ : ByteArray)] : List ByteArray))).bind fun bt254 => (if (js14).size + bt254.1.size ≤ 9223372036854775807 then (if ((js14) ++ bt254.1).size + (a1.extract (t245 : Int).toNat a1.size).size ≤ 9223372036854775807 then (some (((js14) ++ bt254.1) ++ (a1.extract (t245 : Int).toNat a1.size), bt254.2.1, bt254.2.2)) else (none)) else (none))) = some (r1, r2, r3) := by first | (rw [hjs14] at H; exact H) | (simp only [hjs14] at H ⊢; exact H)
     (try rw [hjs14] at A3)
     (try rw [hjs14] at A4)
     obtain ⟨y251, hy251⟩ : ∃ y_ : List ByteArray, y_ = (([(⟨#[48]⟩ : ByteArray), (⟨#[32]⟩ : ByteArray), (⟨#[255]⟩ : ByteArray), (⟨#[34]⟩ : ByteArray), (⟨#[10]⟩ : ByteArray), (⟨#[97]⟩ : ByteArray), (⟨#[44]⟩ : ByteArray), (⟨#[61]⟩ : ByteArray)] : List ByteArray)) := ⟨_, rfl⟩
     first | replace H := hb1 H (show (spec_l01Pick.f s0_0 t249 t250 y251) = _ from (by rw [hy251])) | replace H := hb1 (hb2 H) (show (spec_l01Pick.f s0_0 t249 t250 y251) = _ from (by rw [hy251]))
     have Ny251 := Aside0.mk hy251
     clear hy251
     replace H := Option.bind_eq_some_iff.mp H
     obtain ⟨⟨t254, t255, t256⟩, A150, H⟩ := H
     try dsimp only at H
     have A15 := Aside0.mk A150
     clear A150
     by_cases c16 : (js14).size + t254.size ≤ 9223372036854775807
     ·rw [if_pos c16] at H
      have c16b0 := eq_true c16
      have c16b1 : decide ((js14).size + t254.size ≤ 9223372036854775807) = true := decide_eq_true c16
      try have c16b2 : (9223372036854775807 < (js14).size + t254.size) = False := eq_false (Nat.not_lt.2 c16)
      obtain ⟨js17, hjs17⟩ : ∃ j_ : ByteArray, ((js14) ++ t254) = j_ := ⟨_, rfl⟩
      replace H : (if (js17).size + (a1.extract (t245 : Int).toNat a1.size).size ≤ 9223372036854775807 then (some ((js17) ++ (a1.extract (t245 : Int).toNat a1.size), t255, t256)) else (none)) = some (r1, r2, r3) := by first | (rw [hjs17] at H; exact H) | (simp only [hjs17] at H ⊢; exact H)
      (try rw [hjs17] at A3)
      (try rw [hjs17] at A4)
      (try rw [hjs17] at A15)
      have c18b0 := eq_true (of_decide_eq_true zb5 : 0 ≤ t245)
      have c19b0 := eq_true (of_decide_eq_true zb5 : t245 ≤ (a1.size : Int))
      obtain ⟨js20, hjs20⟩ : ∃ j_ : ByteArray, (a1.extract (t245 : Int).toNat a1.size) = j_ := ⟨_, rfl⟩
      replace H : (if (js17).size + (js20).size ≤ 9223372036854775807 then (some ((js17) ++ (js20), t255, t256)) else (none)) = some (r1, r2, r3) := by first | (rw [hjs20] at H; exact H) | (simp only [hjs20] at H ⊢; exact H)
      (try rw [hjs20] at A3)
      (try rw [hjs20] at A4)
      (try rw [hjs20] at A15)
      by_cases c21 : (js17).size + (js20).size ≤ 9223372036854775807
      ·rw [if_pos c21] at H
       have c21b0 := eq_true c21
       have c21b1 : decide ((js17).size + (js20).size ≤ 9223372036854775807) = true := decide_eq_true c21
       try have c21b2 : (9223372036854775807 < (js17).size + (js20).size) = False := eq_false (Nat.not_lt.2 c21)
       obtain ⟨js22, hjs22⟩ : ∃ j_ : ByteArray, ((js17) ++ (js20)) = j_ := ⟨_, rfl⟩
       replace H : (some (js22, t255, t256)) = some (r1, r2, r3) := by first | (rw [hjs22] at H; exact H) | (simp only [hjs22] at H ⊢; exact H)
       (try rw [hjs22] at A3)
       (try rw [hjs22] at A4)
       (try rw [hjs22] at A15)
       simp only [Option.some.injEq, Prod.mk.injEq] at H
       obtain ⟨rfl, rfl, rfl⟩ := H
       go_enter Tryz.func56, Tryz.ntmps56
       try go_wp2_with (first | ((with_reducible refine gate_callee (f := 79) rfl ?_); refine goesL_ (some 10) rfl rfl Tryz.func79 zb13 rfl #[.pointer (some ⟨g, 0, none⟩), .int .i64 (wrap64 ((a1.size : Int) + 1))] rfl zb2 ?_; (with_reducible refine (spec_l01Below.calls g s0_0 s0_1 s0_2 (wrap64 ((a1.size : Int) + 1)) t245 t246 t247 w0 _ ?side1 ?side2 A3.out).mono ?_); (case side1 => exact zb1); (case side2 => exact zb3); rintro e w23 ⟨rfl, hi, hb, hk⟩; refine ⟨_, rfl, ?_⟩; replace HK := Aside0.mk (KeepBut.trans zb4 hk (.inl rfl)); replace HB := Aside0.mk hb; replace HI0 := Aside0.mk hi; (try clear hb); (try clear hb2); (try clear hk); (try clear hi)) | ((with_reducible refine gate_callee (f := 79) rfl ?_); refine goesL_ (some 12) rfl rfl Tryz.func79 zb13 rfl #[.pointer (some ⟨g, 0, none⟩), .int .i64 8] rfl zb2 ?_; (with_reducible refine (spec_l01Below.calls g s0_0 t246 t247 8 t248 t249 t250 w0 _ ?side1 ?side2 A4.out).mono ?_); (case side1 => exact zb1); (case side2 => exact zb3); rintro e w24 ⟨rfl, hi, hb, hk⟩; refine ⟨_, rfl, ?_⟩; replace HK := Aside0.mk (KeepBut.trans zb4 hk (.inl rfl)); replace HB := Aside0.mk hb; replace HI0 := Aside0.mk hi; (try clear hb); (try clear hb2); (try clear hk); (try clear hi)))
       replace HI0 := Aside0.mk (IsS85.drew HI0.out)
       replace HK := Aside0.mk (keep_drew HK.out)
       replace HB := Aside0.mk (below_drew1 HB.out)
       refine start_ (n := 12) (S := fun w' => True) (ds := []) #[false, false, false, false, false, false, false, false, false, false, false, false] zb13 rfl rfl trivial (fun hHeld => ?_); refine with_tabW spec_l01Bent.tab6 spec_l01Bent.bits6 (fun HT_ HW_ => ?_)
       generalize w24.drew = w25 at HI0 HK HB hHeld ⊢
       refine pz 0 20 ?_
       refine pz 1 21 ?_
       refine pz 2 22 ?_
       refine pz 3 23 ?_
       refine pz 7 27 ?_
       refine pz 8 28 ?_
       refine pz 9 29 ?_
       refine one_ (i := 4) (N := some 24) #[true, true, true, true, true, false, false, true, true, true, false, false] rfl rfl (one_of HT_.out zb13) zb33 (fun K hK => ?_)
       refine Kd.R_lit_step Kd.string _ 9 ?hg (N := 24) ?hd (xs := ([(⟨#[48]⟩ : ByteArray), (⟨#[32]⟩ : ByteArray), (⟨#[255]⟩ : ByteArray), (⟨#[34]⟩ : ByteArray), (⟨#[10]⟩ : ByteArray), (⟨#[97]⟩ : ByteArray), (⟨#[44]⟩ : ByteArray), (⟨#[61]⟩ : ByteArray)] : List ByteArray)) (inner := [.string (⟨#[48]⟩ : ByteArray), .string (⟨#[32]⟩ : ByteArray), .string (⟨#[255]⟩ : ByteArray), .string (⟨#[34]⟩ : ByteArray), .string (⟨#[10]⟩ : ByteArray), .string (⟨#[97]⟩ : ByteArray), .string (⟨#[44]⟩ : ByteArray), .string (⟨#[61]⟩ : ByteArray)]) (ok := fun _ => True) (okp := fun _ => True) ?hr ?hp (fun _ hk => hk) trivial (Below.refl _ _) (Nat.le_refl _) zb26 ?_; (case hd => rfl); (case hg => rfl); (case hr => exact zb15); (case hp => exact zb16)
       intro v252 w26 ho27 hb hg_ hnew_
       clear hg_ hnew_
       (first | rw [← Ny251.out] at ho27 | (simp only [Int.reduceToNat] at ho27; rw [← Ny251.out] at ho27))
       have HO253 := Aside0.mk (Kd.R_lower ho27 (keep_size (w := w) (g := g) (row := none) zb4))
       replace HK := Aside0.mk (KeepBut.trans zb4 (KeepBut.of_below hb g none) (.inl rfl))
       replace HB := Aside0.mk (below_step zb3 hb)
       replace HI0 := Aside0.mk (IsS85.below zb1 hb)
       clear hb ho27
       obtain ⟨Ao28, co28, eo28⟩ := Kd.R_slice HO253.out
       (first | subst eo28 | (injection eo28 with f1_ f2_ f3_; have f4_ := f1_.symm; have f5_ := f3_.symm; clear f1_ f2_ f3_; subst f4_; subst f5_))
       refine hK.out _ _ trivial (fun hHeld => ?_)
       clear hK K
       refine norm_ (a' := ?_) ?_ ?_
       rotate_left
       ·show Act.put _ (some 24) _ = _
        simp only [Act.put, List.setIfInBounds_toArray, List.set_cons_zero, List.set_cons_succ, i64_w, i32_w]
        rfl
       refine one_ (i := 5) (N := some 25) #[true, true, true, true, true, true, false, true, true, true, false, false] rfl rfl (one_of HT_.out zb13) zb33 (fun K hK => ?_)
       refine goes_ Tryz.func80 zb13 rfl #[.pointer (some ⟨g, 0, none⟩), .slice Ao28 y251.length co28] (by rfl) rfl rfl zb2 ?_
       with_reducible refine (spec_l01Pick.calls g s0_0 t249 t250 _ _ y251 t254 t255 t256 w0 _ ?side1 ?side2 ?side3 ?side4 ?side5 A15.out).mono ?_
       (case side1 => exact zb1)
       (case side2 => exact zb3)
       (case side3 => repeat (first | exact (Kd.R_reads' HO253.out).2.2 | (with_reducible refine Kd.C_alloc ?_ _) | (with_reducible refine Kd.C_drewN ?_ _) | (with_reducible refine Kd.C_drew ?_)))
       (case side4 => exact (Kd.R_reads' HO253.out).2.1)
       (case side5 => exact far_slice (IsS85.own_ne HI0.out HO253.out zb33))
       rintro e w29 ⟨rfl, hi, hb, hk⟩
       refine ⟨_, rfl, ?_⟩
       replace HO253 := Aside0.mk (Kd.R_mono (Kd.R_keep (IsS85.apart (show IsS85 w0 _ g s0_0 t249 t250 from zb1) (zR HO253.out) zb33) hk (fun _ h => h.2)) (fun _ h => h.1))
       replace HK := Aside0.mk (KeepBut.trans zb4 hk (.inl rfl))
       replace HB := Aside0.mk hb
       replace HI0 := Aside0.mk hi
       (try clear hb)
       (try clear hb2)
       (try clear hk)
       (try clear hi)
       refine hK.out _ _ trivial (fun hHeld => ?_)
       clear hK K
       refine norm_ (a' := ?_) ?_ ?_
       rotate_left
       ·show Act.put _ (some 25) _ = _
        simp only [Act.put, List.setIfInBounds_toArray, List.set_cons_zero, List.set_cons_succ, i64_w, i32_w]
        rfl
       refine pz 6 26 ?_
       refine pz 10 30 ?_
       refine pz 11 4 ?_
       refine done_ (done_of HT_.out zb13) ?_
       try go_wp2
       go_ret
       exact ⟨(by first | rfl | (simp [errW_none, errW_some] <;> rfl) | (simp only [← hjs14, ← hjs17, ← hjs20, ← hjs22]; first | rfl | (simp [errW_none, errW_some] <;> rfl)) | (simp [*, errW_none, errW_some] <;> rfl)), zb1, zb3, zb4⟩
      ·rw [if_neg c21] at H
       exact absurd H zb26
     ·rw [if_neg c16] at H
      exact absurd H zb26
    ·rw [if_neg c13] at H
     exact absurd H zb26
   ·rw [if_neg c12] at H
    exact absurd H zb26
  ·rw [if_neg c11] at H
   have c11b0 : (t248 == 1) = false := beq_eq_false_iff_ne.mpr c11
   have c11b1 : (t248 != 1) = true := bne_iff_ne.mpr c11
   by_cases c30 : t248 = 2
   ·rw [if_pos c30] at H
    have c30b0 : (t248 == 2) = true := beq_iff_eq.mpr c30
    have c30b1 : (t248 != 2) = false := bne_eq_false_iff_eq.mpr c30
    clear c30
    by_cases c31 : t245 < (a1.size : Int)
    ·rw [if_pos c31] at H
     have c31b0 : decide (t245 < (a1.size : Int)) = true := decide_eq_true c31
     clear c31
     by_cases c32 : 0 ≤ t245
     ·rw [if_pos c32] at H
      have c32b0 := eq_true c32
      have c32b1 : decide (0 ≤ t245) = true := decide_eq_true c32
      clear c32
      by_cases c33 : t245 ≤ (a1.size : Int)
      ·rw [if_pos c33] at H
       have c33b0 := eq_true c33
       have c33b1 : decide (t245 ≤ (a1.size : Int)) = true := decide_eq_true c33
       clear c33
       obtain ⟨js34, hjs34⟩ : ∃ j_ : ByteArray, (a1.extract 0 (t245 : Int).toNat) = j_ := ⟨_, rfl⟩
       replace H : ((spec_l01Pick.f s0_0 t249 t250 (([(⟨#[48]⟩ : ByteArray), (⟨#[65]⟩ : ByteArray), (⟨#[0]⟩ : ByteArray), (⟨#[57]⟩ : ByteArray), (⟨#[93]⟩ : ByteArray), (⟨#[92]⟩ : ByteArray)] : List ByteArray))).bind fun bt260 => (if (js34).size + bt260.1.size ≤ 9223372036854775807 then (if 0 ≤ (wrap64 (t245 + 1)) then (if (wrap64 (t245 + 1)) ≤ (a1.size : Int) then (if ((js34) ++ bt260.1).size + (a1.extract ((wrap64 (t245 + 1)) : Int).toNat a1.size).size ≤ 9223372036854775807 then (some (((js34) ++ bt260.1) ++ (a1.extract ((wrap64 (t245 + 1)) : Int).toNat a1.size), bt260.2.1, bt260.2.2)) else (none)) else (none)) else (none)) else (none))) = some (r1, r2, r3) := by first | (rw [hjs34] at H; exact H) | (simp only [hjs34] at H ⊢; exact H)
       (try rw [hjs34] at A3)
       (try rw [hjs34] at A4)
       obtain ⟨y257, hy257⟩ : ∃ y_ : List ByteArray, y_ = (([(⟨#[48]⟩ : ByteArray), (⟨#[65]⟩ : ByteArray), (⟨#[0]⟩ : ByteArray), (⟨#[57]⟩ : ByteArray), (⟨#[93]⟩ : ByteArray), (⟨#[92]⟩ : ByteArray)] : List ByteArray)) := ⟨_, rfl⟩
       first | replace H := hb1 H (show (spec_l01Pick.f s0_0 t249 t250 y257) = _ from (by rw [hy257])) | replace H := hb1 (hb2 H) (show (spec_l01Pick.f s0_0 t249 t250 y257) = _ from (by rw [hy257]))
       have Ny257 := Aside0.mk hy257
       clear hy257
       replace H := Option.bind_eq_some_iff.mp H
       obtain ⟨⟨t260, t261, t262⟩, A350, H⟩ := H
       try dsimp only at H
       have A35 := Aside0.mk A350
       clear A350
       by_cases c36 : (js34).size + t260.size ≤ 9223372036854775807
       ·rw [if_pos c36] at H
        have c36b0 := eq_true c36
        have c36b1 : decide ((js34).size + t260.size ≤ 9223372036854775807) = true := decide_eq_true c36
        try have c36b2 : (9223372036854775807 < (js34).size + t260.size) = False := eq_false (Nat.not_lt.2 c36)
        obtain ⟨js37, hjs37⟩ : ∃ j_ : ByteArray, ((js34) ++ t260) = j_ := ⟨_, rfl⟩
        replace H : (if 0 ≤ (wrap64 (t245 + 1)) then (if (wrap64 (t245 + 1)) ≤ (a1.size : Int) then (if (js37).size + (a1.extract ((wrap64 (t245 + 1)) : Int).toNat a1.size).size ≤ 9223372036854775807 then (some ((js37) ++ (a1.extract ((wrap64 (t245 + 1)) : Int).toNat a1.size), t261, t262)) else (none)) else (none)) else (none)) = some (r1, r2, r3) := by first | (rw [hjs37] at H; exact H) | (simp only [hjs37] at H ⊢; exact H)
        (try rw [hjs37] at A3)
        (try rw [hjs37] at A4)
        (try rw [hjs37] at A35)
        obtain ⟨ji38, hji38⟩ : ∃ j_ : Int, (wrap64 (t245 + 1)) = j_ := ⟨_, rfl⟩
        replace H : (if 0 ≤ (ji38) then (if (ji38) ≤ (a1.size : Int) then (if (js37).size + (a1.extract ((ji38) : Int).toNat a1.size).size ≤ 9223372036854775807 then (some ((js37) ++ (a1.extract ((ji38) : Int).toNat a1.size), t261, t262)) else (none)) else (none)) else (none)) = some (r1, r2, r3) := by first | (rw [hji38] at H; exact H) | (simp only [hji38] at H ⊢; exact H)
        (try rw [hji38] at A3)
        (try rw [hji38] at A4)
        (try rw [hji38] at A35)
        have hji38w : (IntKind.i64.wrap (t245 + 1)) = ji38 := (i64_w _).trans hji38
        by_cases c39 : 0 ≤ (ji38)
        ·rw [if_pos c39] at H
         have c39b0 := eq_true c39
         have c39b1 : decide (0 ≤ (ji38)) = true := decide_eq_true c39
         clear c39
         by_cases c40 : (ji38) ≤ (a1.size : Int)
         ·rw [if_pos c40] at H
          have c40b0 := eq_true c40
          have c40b1 : decide ((ji38) ≤ (a1.size : Int)) = true := decide_eq_true c40
          clear c40
          obtain ⟨js41, hjs41⟩ : ∃ j_ : ByteArray, (a1.extract ((ji38) : Int).toNat a1.size) = j_ := ⟨_, rfl⟩
          replace H : (if (js37).size + (js41).size ≤ 9223372036854775807 then (some ((js37) ++ (js41), t261, t262)) else (none)) = some (r1, r2, r3) := by first | (rw [hjs41] at H; exact H) | (simp only [hjs41] at H ⊢; exact H)
          (try rw [hjs41] at A3)
          (try rw [hjs41] at A4)
          (try rw [hjs41] at A35)
          by_cases c42 : (js37).size + (js41).size ≤ 9223372036854775807
          ·rw [if_pos c42] at H
           have c42b0 := eq_true c42
           have c42b1 : decide ((js37).size + (js41).size ≤ 9223372036854775807) = true := decide_eq_true c42
           try have c42b2 : (9223372036854775807 < (js37).size + (js41).size) = False := eq_false (Nat.not_lt.2 c42)
           obtain ⟨js43, hjs43⟩ : ∃ j_ : ByteArray, ((js37) ++ (js41)) = j_ := ⟨_, rfl⟩
           replace H : (some (js43, t261, t262)) = some (r1, r2, r3) := by first | (rw [hjs43] at H; exact H) | (simp only [hjs43] at H ⊢; exact H)
           (try rw [hjs43] at A3)
           (try rw [hjs43] at A4)
           (try rw [hjs43] at A35)
           simp only [Option.some.injEq, Prod.mk.injEq] at H
           obtain ⟨rfl, rfl, rfl⟩ := H
           go_enter Tryz.func56, Tryz.ntmps56
           try go_wp2_with (first | ((with_reducible refine gate_callee (f := 79) rfl ?_); refine goesL_ (some 10) rfl rfl Tryz.func79 zb13 rfl #[.pointer (some ⟨g, 0, none⟩), .int .i64 (wrap64 ((a1.size : Int) + 1))] rfl zb2 ?_; (with_reducible refine (spec_l01Below.calls g s0_0 s0_1 s0_2 (wrap64 ((a1.size : Int) + 1)) t245 t246 t247 w0 _ ?side1 ?side2 A3.out).mono ?_); (case side1 => exact zb1); (case side2 => exact zb3); rintro e w44 ⟨rfl, hi, hb, hk⟩; refine ⟨_, rfl, ?_⟩; replace HK := Aside0.mk (KeepBut.trans zb4 hk (.inl rfl)); replace HB := Aside0.mk hb; replace HI0 := Aside0.mk hi; (try clear hb); (try clear hb2); (try clear hk); (try clear hi)) | ((with_reducible refine gate_callee (f := 79) rfl ?_); refine goesL_ (some 12) rfl rfl Tryz.func79 zb13 rfl #[.pointer (some ⟨g, 0, none⟩), .int .i64 8] rfl zb2 ?_; (with_reducible refine (spec_l01Below.calls g s0_0 t246 t247 8 t248 t249 t250 w0 _ ?side1 ?side2 A4.out).mono ?_); (case side1 => exact zb1); (case side2 => exact zb3); rintro e w45 ⟨rfl, hi, hb, hk⟩; refine ⟨_, rfl, ?_⟩; replace HK := Aside0.mk (KeepBut.trans zb4 hk (.inl rfl)); replace HB := Aside0.mk hb; replace HI0 := Aside0.mk hi; (try clear hb); (try clear hb2); (try clear hk); (try clear hi)))
           replace HI0 := Aside0.mk (IsS85.drew HI0.out)
           replace HK := Aside0.mk (keep_drew HK.out)
           replace HB := Aside0.mk (below_drew1 HB.out)
           refine start_ (n := 13) (S := fun w' => True) (ds := []) #[false, false, false, false, false, false, false, false, false, false, false, false, false] zb13 rfl rfl trivial (fun hHeld => ?_); refine with_tabW spec_l01Bent.tab9 spec_l01Bent.bits9 (fun HT_ HW_ => ?_)
           generalize w45.drew = w46 at HI0 HK HB hHeld ⊢
           refine pz 0 37 ?_
           refine pz 1 38 ?_
           refine pz 2 39 ?_
           refine pz 3 40 ?_
           refine pz 7 44 ?_
           refine pz 8 45 ?_
           refine pz 9 46 ?_
           refine pz 10 47 ?_
           refine one_ (i := 4) (N := some 41) #[true, true, true, true, true, false, false, true, true, true, true, false, false] rfl rfl (one_of HT_.out zb13) zb33 (fun K hK => ?_)
           refine Kd.R_lit_step Kd.string _ 9 ?hg (N := 41) ?hd (xs := ([(⟨#[48]⟩ : ByteArray), (⟨#[65]⟩ : ByteArray), (⟨#[0]⟩ : ByteArray), (⟨#[57]⟩ : ByteArray), (⟨#[93]⟩ : ByteArray), (⟨#[92]⟩ : ByteArray)] : List ByteArray)) (inner := [.string (⟨#[48]⟩ : ByteArray), .string (⟨#[65]⟩ : ByteArray), .string (⟨#[0]⟩ : ByteArray), .string (⟨#[57]⟩ : ByteArray), .string (⟨#[93]⟩ : ByteArray), .string (⟨#[92]⟩ : ByteArray)]) (ok := fun _ => True) (okp := fun _ => True) ?hr ?hp (fun _ hk => hk) trivial (Below.refl _ _) (Nat.le_refl _) zb26 ?_; (case hd => rfl); (case hg => rfl); (case hr => exact zb15); (case hp => exact zb16)
           intro v258 w47 ho48 hb hg_ hnew_
           clear hg_ hnew_
           (first | rw [← Ny257.out] at ho48 | (simp only [Int.reduceToNat] at ho48; rw [← Ny257.out] at ho48))
           have HO259 := Aside0.mk (Kd.R_lower ho48 (keep_size (w := w) (g := g) (row := none) zb4))
           replace HK := Aside0.mk (KeepBut.trans zb4 (KeepBut.of_below hb g none) (.inl rfl))
           replace HB := Aside0.mk (below_step zb3 hb)
           replace HI0 := Aside0.mk (IsS85.below zb1 hb)
           clear hb ho48
           obtain ⟨Ao49, co49, eo49⟩ := Kd.R_slice HO259.out
           (first | subst eo49 | (injection eo49 with f1_ f2_ f3_; have f4_ := f1_.symm; have f5_ := f3_.symm; clear f1_ f2_ f3_; subst f4_; subst f5_))
           refine hK.out _ _ trivial (fun hHeld => ?_)
           clear hK K
           refine norm_ (a' := ?_) ?_ ?_
           rotate_left
           ·show Act.put _ (some 41) _ = _
            simp only [Act.put, List.setIfInBounds_toArray, List.set_cons_zero, List.set_cons_succ, i64_w, i32_w]
            rfl
           refine one_ (i := 5) (N := some 42) #[true, true, true, true, true, true, false, true, true, true, true, false, false] rfl rfl (one_of HT_.out zb13) zb33 (fun K hK => ?_)
           refine goes_ Tryz.func80 zb13 rfl #[.pointer (some ⟨g, 0, none⟩), .slice Ao49 y257.length co49] (by rfl) rfl rfl zb2 ?_
           with_reducible refine (spec_l01Pick.calls g s0_0 t249 t250 _ _ y257 t260 t261 t262 w0 _ ?side1 ?side2 ?side3 ?side4 ?side5 A35.out).mono ?_
           (case side1 => exact zb1)
           (case side2 => exact zb3)
           (case side3 => repeat (first | exact (Kd.R_reads' HO259.out).2.2 | (with_reducible refine Kd.C_alloc ?_ _) | (with_reducible refine Kd.C_drewN ?_ _) | (with_reducible refine Kd.C_drew ?_)))
           (case side4 => exact (Kd.R_reads' HO259.out).2.1)
           (case side5 => exact far_slice (IsS85.own_ne HI0.out HO259.out zb33))
           rintro e w50 ⟨rfl, hi, hb, hk⟩
           refine ⟨_, rfl, ?_⟩
           replace HO259 := Aside0.mk (Kd.R_mono (Kd.R_keep (IsS85.apart (show IsS85 w0 _ g s0_0 t249 t250 from zb1) (zR HO259.out) zb33) hk (fun _ h => h.2)) (fun _ h => h.1))
           replace HK := Aside0.mk (KeepBut.trans zb4 hk (.inl rfl))
           replace HB := Aside0.mk hb
           replace HI0 := Aside0.mk hi
           (try clear hb)
           (try clear hb2)
           (try clear hk)
           (try clear hi)
           refine hK.out _ _ trivial (fun hHeld => ?_)
           clear hK K
           refine norm_ (a' := ?_) ?_ ?_
           rotate_left
           ·show Act.put _ (some 42) _ = _
            simp only [Act.put, List.setIfInBounds_toArray, List.set_cons_zero, List.set_cons_succ, i64_w, i32_w]
            rfl
           refine pz 6 43 ?_
           refine pz 11 48 ?_
           refine pz 12 4 ?_
           refine done_ (done_of HT_.out zb13) ?_
           try go_wp2
           go_ret
           exact ⟨(by first | rfl | (simp [errW_none, errW_some] <;> rfl) | (simp only [← hjs34, ← hjs37, ← hji38, ← hjs41, ← hjs43]; first | rfl | (simp [errW_none, errW_some] <;> rfl)) | (simp [*, errW_none, errW_some] <;> rfl)), zb1, zb3, zb4⟩
          ·rw [if_neg c42] at H
           exact absurd H zb26
         ·rw [if_neg c40] at H
          exact absurd H zb26
        ·rw [if_neg c39] at H
         exact absurd H zb26
       ·rw [if_neg c36] at H
        exact absurd H zb26
      ·rw [if_neg c33] at H
       exact absurd H zb26
     ·rw [if_neg c32] at H
      exact absurd H zb26
    ·rw [if_neg c31] at H
     have c31b0 : decide (t245 < (a1.size : Int)) = false := decide_eq_false c31
     clear c31
     simp only [Option.some.injEq, Prod.mk.injEq] at H
     obtain ⟨rfl, rfl, rfl⟩ := H
     go_enter Tryz.func56, Tryz.ntmps56
     go_wp2_with (first | ((with_reducible refine gate_callee (f := 79) rfl ?_); refine goesL_ (some 10) rfl rfl Tryz.func79 zb13 rfl #[.pointer (some ⟨g, 0, none⟩), .int .i64 (wrap64 ((a1.size : Int) + 1))] rfl zb2 ?_; (with_reducible refine (spec_l01Below.calls g s0_0 s0_1 s0_2 (wrap64 ((a1.size : Int) + 1)) t245 t246 t247 w0 _ ?side1 ?side2 A3.out).mono ?_); (case side1 => exact zb1); (case side2 => exact zb3); rintro e w51 ⟨rfl, hi, hb, hk⟩; refine ⟨_, rfl, ?_⟩; replace HK := Aside0.mk (KeepBut.trans zb4 hk (.inl rfl)); replace HB := Aside0.mk hb; replace HI0 := Aside0.mk hi; (try clear hb); (try clear hb2); (try clear hk); (try clear hi)) | ((with_reducible refine gate_callee (f := 79) rfl ?_); refine goesL_ (some 12) rfl rfl Tryz.func79 zb13 rfl #[.pointer (some ⟨g, 0, none⟩), .int .i64 8] rfl zb2 ?_; (with_reducible refine (spec_l01Below.calls g s0_0 t246 t247 8 t248 t249 t250 w0 _ ?side1 ?side2 A4.out).mono ?_); (case side1 => exact zb1); (case side2 => exact zb3); rintro e w52 ⟨rfl, hi, hb, hk⟩; refine ⟨_, rfl, ?_⟩; replace HK := Aside0.mk (KeepBut.trans zb4 hk (.inl rfl)); replace HB := Aside0.mk hb; replace HI0 := Aside0.mk hi; (try clear hb); (try clear hb2); (try clear hk); (try clear hi)))
     go_ret
     exact ⟨zb8, zb1, zb3, zb4⟩
   ·rw [if_neg c30] at H
    have c30b0 : (t248 == 2) = false := beq_eq_false_iff_ne.mpr c30
    have c30b1 : (t248 != 2) = true := bne_iff_ne.mpr c30
    simp only [Option.some.injEq, Prod.mk.injEq] at H
    obtain ⟨rfl, rfl, rfl⟩ := H
    go_enter Tryz.func56, Tryz.ntmps56
    go_wp2_with (first | ((with_reducible refine gate_callee (f := 79) rfl ?_); refine goesL_ (some 10) rfl rfl Tryz.func79 zb13 rfl #[.pointer (some ⟨g, 0, none⟩), .int .i64 (wrap64 ((a1.size : Int) + 1))] rfl zb2 ?_; (with_reducible refine (spec_l01Below.calls g s0_0 s0_1 s0_2 (wrap64 ((a1.size : Int) + 1)) t245 t246 t247 w0 _ ?side1 ?side2 A3.out).mono ?_); (case side1 => exact zb1); (case side2 => exact zb3); rintro e w53 ⟨rfl, hi, hb, hk⟩; refine ⟨_, rfl, ?_⟩; replace HK := Aside0.mk (KeepBut.trans zb4 hk (.inl rfl)); replace HB := Aside0.mk hb; replace HI0 := Aside0.mk hi; (try clear hb); (try clear hb2); (try clear hk); (try clear hi)) | ((with_reducible refine gate_callee (f := 79) rfl ?_); refine goesL_ (some 12) rfl rfl Tryz.func79 zb13 rfl #[.pointer (some ⟨g, 0, none⟩), .int .i64 8] rfl zb2 ?_; (with_reducible refine (spec_l01Below.calls g s0_0 t246 t247 8 t248 t249 t250 w0 _ ?side1 ?side2 A4.out).mono ?_); (case side1 => exact zb1); (case side2 => exact zb3); rintro e w54 ⟨rfl, hi, hb, hk⟩; refine ⟨_, rfl, ?_⟩; replace HK := Aside0.mk (KeepBut.trans zb4 hk (.inl rfl)); replace HB := Aside0.mk hb; replace HI0 := Aside0.mk hi; (try clear hb); (try clear hb2); (try clear hk); (try clear hi)))
    go_ret
    exact ⟨zb8, zb1, zb3, zb4⟩
set_option maxHeartbeats 8000000 in
set_option maxRecDepth 100000 in
theorem spec_l01PickInt.calls (g : Nat) (s0_0 : List Int) (s0_1 : Int) (s0_2 : Int) (A1 : Option Addr) (c1 : Nat) (l1 : List Int) (r1 : Int) (r2 : Int) (r3 : Int) (w0 w : World) (hI : IsS85 w0 w g s0_0 s0_1 s0_2) (hB : Below w0.heap.size w0 w) (hr1 : Kd.C (Kd.int .i64) w A1 l1.length l1) (hc1 : l1.length ≤ c1) (hf1 : ∀ ad, A1 = some ad → 0 < l1.length → ad.block ≠ g) (h : spec_l01PickInt.f s0_0 s0_1 s0_2 l1 = some (r1, r2, r3)) :
  Calls Tryz.prog 76 #[.pointer (some ⟨g, 0, none⟩), .slice A1 l1.length c1] w fun e w' => e = .returned (.int .i64 r1) ∧ IsS85 w0 w' g s0_0 r2 r3 ∧ Below w0.heap.size w0 w' ∧ KeepBut w w' g none := by
 have HR1 := Aside0.mk hr1
 have HC1 := Aside0.mk hc1
 clear hr1 hc1
 have HI0 := Aside0.mk hI
 have HK := Aside0.mk (KeepBut.refl w g none)
 have HL := Aside0.mk hB.size
 clear hI
 have HW0 := Aside0.mk hB.size
 have HB := Aside0.mk hB
 clear hB
 have H : ((spec_l01Below.f s0_0 s0_1 s0_2 (l1.length : Int)).bind fun bt263 => (if 0 ≤ bt263.1 then (if bt263.1 < (l1.length : Int) then (some (rd l1 bt263.1, bt263.2.1, bt263.2.2)) else (none)) else (none))) = some (r1, r2, r3) := h
 clear h
 replace H := Option.bind_eq_some_iff.mp H
 obtain ⟨⟨t263, t264, t265⟩, A30, H⟩ := H
 try dsimp only at H
 have A3 := Aside0.mk A30
 clear A30
 by_cases c4 : 0 ≤ t263
 ·rw [if_pos c4] at H
  have c4b0 : decide (0 ≤ t263) = true := decide_eq_true c4
  clear c4
  by_cases c5 : t263 < (l1.length : Int)
  ·rw [if_pos c5] at H
   have c5b0 : decide (t263 < (l1.length : Int)) = true := decide_eq_true c5
   clear c5
   simp only [Option.some.injEq, Prod.mk.injEq] at H
   obtain ⟨rfl, rfl, rfl⟩ := H
   go_enter Tryz.func76, Tryz.ntmps76
   go_wp2_with (first | ((with_reducible refine gate_callee (f := 79) rfl ?_); refine goesL_ (some 9) rfl rfl Tryz.func79 zb13 rfl #[.pointer (some ⟨g, 0, none⟩), .int .i64 (l1.length : Int)] rfl zb2 ?_; (with_reducible refine (spec_l01Below.calls g s0_0 s0_1 s0_2 (l1.length : Int) t263 t264 t265 w0 _ ?side1 ?side2 A3.out).mono ?_); (case side1 => exact zb1); (case side2 => exact zb3); rintro e w6 ⟨rfl, hi, hb, hk⟩; refine ⟨_, rfl, ?_⟩; replace HK := Aside0.mk (KeepBut.trans zb4 hk (.inl rfl)); replace HB := Aside0.mk hb; replace HI0 := Aside0.mk hi; (try clear hb); have p266 : 0 ≤ (t263 : Int) := of_decide_eq_true zb5; have q266 : t263 < (l1.length : Int) := of_decide_eq_true zb5; obtain ⟨ad266, e266, hx266_0⟩ := Kd.at_int HR1.out t263 p266 q266; cases e266; replace hx266_0 := keep_cell HK.out hx266_0 (by first | (rw [add_block]; exact hf1 _ rfl zb40) | exact hf1 _ rfl zb40 | exact hf1 ad266 rfl zb40); replace p266 := eq_true p266; replace q266 := eq_true q266))
   go_ret
   exact ⟨zb8, zb1, zb3, zb4⟩
  ·rw [if_neg c5] at H
   exact absurd H zb26
 ·rw [if_neg c4] at H
  exact absurd H zb26
set_option maxHeartbeats 8000000 in
set_option maxRecDepth 100000 in
theorem spec_DrawUnquote.calls (k : Nat) (A0 : Option Addr) (c0 : Nat) (l0 : List Int) (r1 : ByteArray) (r2 : Int) (w : World) (hr0 : Kd.C (Kd.int .u8) w A0 l0.length l0) (hc0 : l0.length ≤ c0) (h : spec_DrawUnquote.f k l0 = some (r1, r2)) :
  Calls Tryz.prog 24 #[.slice A0 l0.length c0] w fun e w' => e = .returned (.tuple #[.string r1, .int .i64 r2]) ∧ Below w.heap.size w w' := by
 have HR0 := Aside0.mk hr0
 have HC0 := Aside0.mk hc0
 clear hr0 hc0
 have HB := Aside0.mk (Below.refl w.heap.size w)
 have H : ((spec_l01New.f k l0).bind fun bt267 => ((spec_l01Raw.f k bt267.1 bt267.2.1 bt267.2.2).bind fun bt271 => ((spec_Quote.f k bt271.1).bind fun t274 => ((spec_l01Bent.f bt267.1 bt271.2.1 bt271.2.2 t274).bind fun bt275 => (if 1 + bt275.1.size ≤ 9223372036854775807 then (if ((⟨#[120]⟩ : ByteArray) ++ bt275.1).size + 1 ≤ 9223372036854775807 then ((spec_l01PickInt.f bt267.1 bt275.2.1 bt275.2.2 (([1, 1, 1, 1, 0, 2, (-1), 9223372036854775807] : List Int))).bind fun bt281 => (some (((⟨#[120]⟩ : ByteArray) ++ bt275.1) ++ (⟨#[121]⟩ : ByteArray), bt281.1))) else (none)) else (none)))))) = some (r1, r2) := h
 clear h
 replace H := Option.bind_eq_some_iff.mp H
 obtain ⟨⟨t267, t268, t269⟩, A20, H⟩ := H
 try dsimp only at H
 have A2 := Aside0.mk A20
 clear A20
 replace H := Option.bind_eq_some_iff.mp H
 obtain ⟨⟨t271, t272, t273⟩, A30, H⟩ := H
 try dsimp only at H
 have A3 := Aside0.mk A30
 clear A30
 replace H := Option.bind_eq_some_iff.mp H
 obtain ⟨t274, A40, H⟩ := H
 try dsimp only at H
 have A4 := Aside0.mk A40
 clear A40
 replace H := Option.bind_eq_some_iff.mp H
 obtain ⟨⟨t275, t276, t277⟩, A50, H⟩ := H
 try dsimp only at H
 have A5 := Aside0.mk A50
 clear A50
 by_cases c6 : 1 + t275.size ≤ 9223372036854775807
 ·rw [if_pos c6] at H
  have c6b0 := eq_true c6
  have c6b1 : decide (1 + t275.size ≤ 9223372036854775807) = true := decide_eq_true c6
  try have c6b2 : (9223372036854775807 < 1 + t275.size) = False := eq_false (Nat.not_lt.2 c6)
  obtain ⟨js7, hjs7⟩ : ∃ j_ : ByteArray, ((⟨#[120]⟩ : ByteArray) ++ t275) = j_ := ⟨_, rfl⟩
  replace H : (if (js7).size + 1 ≤ 9223372036854775807 then ((spec_l01PickInt.f t267 t276 t277 (([1, 1, 1, 1, 0, 2, (-1), 9223372036854775807] : List Int))).bind fun bt281 => (some ((js7) ++ (⟨#[121]⟩ : ByteArray), bt281.1))) else (none)) = some (r1, r2) := by first | (rw [hjs7] at H; exact H) | (simp only [hjs7] at H ⊢; exact H)
  (try rw [hjs7] at A2)
  (try rw [hjs7] at A3)
  (try rw [hjs7] at A4)
  (try rw [hjs7] at A5)
  by_cases c8 : (js7).size + 1 ≤ 9223372036854775807
  ·rw [if_pos c8] at H
   have c8b0 := eq_true c8
   have c8b1 : decide ((js7).size + 1 ≤ 9223372036854775807) = true := decide_eq_true c8
   try have c8b2 : (9223372036854775807 < (js7).size + 1) = False := eq_false (Nat.not_lt.2 c8)
   obtain ⟨js9, hjs9⟩ : ∃ j_ : ByteArray, ((js7) ++ (⟨#[121]⟩ : ByteArray)) = j_ := ⟨_, rfl⟩
   replace H : ((spec_l01PickInt.f t267 t276 t277 (([1, 1, 1, 1, 0, 2, (-1), 9223372036854775807] : List Int))).bind fun bt281 => (some (js9, bt281.1))) = some (r1, r2) := by first | (rw [hjs9] at H; exact H) | (simp only [hjs9] at H ⊢; exact H)
   (try rw [hjs9] at A2)
   (try rw [hjs9] at A3)
   (try rw [hjs9] at A4)
   (try rw [hjs9] at A5)
   obtain ⟨y278, hy278⟩ : ∃ y_ : List Int, y_ = (([1, 1, 1, 1, 0, 2, (-1), 9223372036854775807] : List Int)) := ⟨_, rfl⟩
   first | replace H := hb1 H (show (spec_l01PickInt.f t267 t276 t277 y278) = _ from (by rw [hy278])) | replace H := hb1 (hb2 H) (show (spec_l01PickInt.f t267 t276 t277 y278) = _ from (by rw [hy278]))
   have Ny278 := Aside0.mk hy278
   clear hy278
   replace H := Option.bind_eq_some_iff.mp H
   obtain ⟨⟨t281, t282, t283⟩, A100, H⟩ := H
   try dsimp only at H
   have A10 := Aside0.mk A100
   clear A100
   simp only [Option.some.injEq, Prod.mk.injEq] at H
   obtain ⟨rfl, rfl⟩ := H
   go_enter Tryz.func24, Tryz.ntmps24
   go_wp2_with (first | ((with_reducible refine gate_callee (f := 54) rfl ?_); refine goesL_ (some 7) rfl rfl Tryz.func54 zb13 rfl #[.slice A0 l0.length c0] rfl zb2 ?_; (with_reducible refine (spec_l01New.calls k _ _ l0 t267 t268 t269 w _ ?side1 ?side2 ?side3 A2.out).mono ?_); (case side1 => exact zb0); (case side2 => exact HR0.out); (case side3 => exact HC0.out); rintro e w11 ⟨g270, rfl, hi, hb, hb2⟩; refine ⟨_, rfl, ?_⟩; replace HB := Aside0.mk hb; have HI270 := Aside0.mk hi; (try clear hb); (try clear hb2); (try clear hk); (try clear hi)) | ((with_reducible refine gate_callee (f := 74) rfl ?_); refine goesL_ (some 10) rfl rfl Tryz.func74 zb13 rfl #[.pointer (some ⟨g270, 0, none⟩)] rfl zb2 ?_; (with_reducible refine (spec_l01Raw.calls k g270 t267 t268 t269 t271 t272 t273 w _ ?side1 ?side2 A3.out).mono ?_); (case side1 => exact zb25); (case side2 => exact zb20); rintro e w12 ⟨rfl, hi, hb, hk⟩; refine ⟨_, rfl, ?_⟩; replace HB := Aside0.mk hb; replace HI270 := Aside0.mk hi; (try clear hb); (try clear hb2); (try clear hk); (try clear hi)) | ((with_reducible refine gate_callee (f := 39) rfl ?_); refine goesL_ (some 11) rfl rfl Tryz.func39 zb13 rfl #[.string t271] rfl zb2 ?_; (with_reducible refine (spec_Quote.calls k t271 t274 _ A4.out).mono ?_); rintro e w13 ⟨rfl, hb⟩; refine ⟨_, rfl, ?_⟩; replace HB := Aside0.mk (below_step zb20 hb); replace HI270 := Aside0.mk (IsS85.below zb25 hb); (try clear hb); (try clear hb2); (try clear hk); (try clear hi)) | ((with_reducible refine gate_callee (f := 56) rfl ?_); refine goesL_ (some 12) rfl rfl Tryz.func56 zb13 rfl #[.pointer (some ⟨g270, 0, none⟩), .string t274] rfl zb2 ?_; (with_reducible refine (spec_l01Bent.calls g270 t267 t272 t273 t274 t275 t276 t277 w _ ?side1 ?side2 A5.out).mono ?_); (case side1 => exact zb25); (case side2 => exact zb20); rintro e w14 ⟨rfl, hi, hb, hk⟩; refine ⟨_, rfl, ?_⟩; replace HB := Aside0.mk hb; replace HI270 := Aside0.mk hi; (try clear hb); (try clear hb2); (try clear hk); (try clear hi)) | ((with_reducible refine gate_dst (N := 17) rfl ?_); refine Kd.R_lit (Kd.int .i64) _ 3 ?hg (N := 17) ?hd (xs := ([1, 1, 1, 1, 0, 2, (-1), 9223372036854775807] : List Int)) (inner := [.int .i64 1, .int .i64 1, .int .i64 1, .int .i64 1, .int .i64 0, .int .i64 2, .int .i64 (-1), .int .i64 9223372036854775807]) (ok := fun _ => True) (okp := fun _ => True) ?hr ?hp (fun _ hk => hk) trivial (Below.refl _ _) (Nat.le_refl _) zb26 ?_; (case hd => rfl); (case hg => rfl); (case hr => exact zb15); (case hp => exact zb36); intro v279 w15 ho16 hb hg_ hnew_; clear hg_ hnew_; (first | rw [← Ny278.out] at ho16 | (simp only [Int.reduceToNat] at ho16; rw [← Ny278.out] at ho16)); have HO280 := Aside0.mk (Kd.R_lower ho16 (below_size zb20)); replace HB := Aside0.mk (below_step zb20 hb); replace HI270 := Aside0.mk (IsS85.below zb25 hb); clear hb ho16; obtain ⟨Ao17, co17, eo17⟩ := Kd.R_slice HO280.out; subst eo17) | ((with_reducible refine gate_callee (f := 76) rfl ?_); refine goesL_ (some 18) rfl rfl Tryz.func76 zb13 rfl #[.pointer (some ⟨g270, 0, none⟩), .slice Ao17 y278.length co17] rfl zb2 ?_; (with_reducible refine (spec_l01PickInt.calls g270 t267 t276 t277 _ _ y278 t281 t282 t283 w _ ?side1 ?side2 ?side3 ?side4 ?side5 A10.out).mono ?_); (case side1 => exact zb25); (case side2 => exact zb20); (case side3 => repeat (first | exact (Kd.R_reads' HO280.out).2.2 | (with_reducible refine Kd.C_alloc ?_ _) | (with_reducible refine Kd.C_drewN ?_ _) | (with_reducible refine Kd.C_drew ?_))); (case side4 => exact (Kd.R_reads' HO280.out).2.1); (case side5 => exact far_slice (IsS85.own_ne HI270.out HO280.out zb33)); rintro e w18 ⟨rfl, hi, hb, hk⟩; refine ⟨_, rfl, ?_⟩; replace HO280 := Aside0.mk (Kd.R_mono (Kd.R_keep (IsS85.apart (show IsS85 w _ g270 t267 t276 t277 from zb25) (zR HO280.out) zb33) hk (fun _ h => h.2)) (fun _ h => h.1)); replace HB := Aside0.mk hb; replace HI270 := Aside0.mk hi; (try clear hb); (try clear hb2); (try clear hk); (try clear hi)))
   go_ret2
   exact ⟨(by first | rfl | (simp [errW_none, errW_some] <;> rfl) | (simp only [← hjs7, ← hjs9]; first | rfl | (simp [errW_none, errW_some] <;> rfl)) | (simp [*, errW_none, errW_some] <;> rfl)), zb20⟩
  ·rw [if_neg c8] at H
   exact absurd H zb26
 ·rw [if_neg c6] at H
  exact absurd H zb26
set_option maxHeartbeats 8000000 in
set_option maxRecDepth 100000 in
theorem impl_GetHex.calls (k : Nat) (a0 : ByteArray) (r1 : ByteArray) (r2 : Bool) (w : World) (h : impl_GetHex.f k a0 = some (r1, r2)) :
  Calls Tryz.prog 77 #[.string a0] w fun e w' => e = .returned (.tuple #[.string r1, .bool r2]) ∧ Below w.heap.size w w' := by
 have HB := Aside0.mk (Below.refl w.heap.size w)
 have H : (impl_GetHex.l0 k a0 (([] : List Int)) 0) = some (r1, r2) := h
 clear h
 obtain ⟨y284, hy284⟩ : ∃ y_ : List Int, y_ = (([] : List Int)) := ⟨_, rfl⟩
 replace H : (impl_GetHex.l0 k a0 y284 0) = some (r1, r2) := by first | (rw [hy284]; with_reducible exact H) | (have H2_ := (Option.bind_some _ _).symm.trans H; rw [hy284]; with_reducible exact H2_) | (have H2_ := (Option.bind_some _ _).symm.trans H; with_reducible exact H2_) | with_reducible exact H | (rw [hy284]; exact H) | exact H
 have Ny284 := Aside0.mk hy284
 clear hy284
 have H' := Aside0.mk H
 clear H
 go_enter Tryz.func77, Tryz.ntmps77
 go_wp2_with (first | ((with_reducible refine gate_dst (N := 8) rfl ?_); refine Kd.R_lit (Kd.int .u8) _ 5 ?hg (N := 8) ?hd (xs := ([] : List Int)) (inner := []) (ok := fun _ => True) (okp := fun _ => True) ?hr ?hp (fun _ hk => hk) trivial (Below.refl _ _) (Nat.le_refl _) zb26 ?_; (case hd => rfl); (case hg => rfl); (case hr => exact zb15); (case hp => exact (Reps.none _ _)); intro v285 w2 ho3 hb hg_ hnew_; clear hg_ hnew_; (first | rw [← Ny284.out] at ho3 | (simp only [Int.reduceToNat] at ho3; rw [← Ny284.out] at ho3)); have HO286 := Aside0.mk (Kd.R_lower ho3 (below_size zb0)); replace HB := Aside0.mk (below_step zb0 hb); clear hb ho3))
 repeat (go_quiet (first | ((with_reducible refine gate_dst (N := 8) rfl ?_); refine Kd.R_lit (Kd.int .u8) _ 5 ?hg (N := 8) ?hd (xs := ([] : List Int)) (inner := []) (ok := fun _ => True) (okp := fun _ => True) ?hr ?hp (fun _ hk => hk) trivial (Below.refl _ _) (Nat.le_refl _) zb26 ?_; (case hd => rfl); (case hg => rfl); (case hr => exact zb15); (case hp => exact (Reps.none _ _)); intro v285 w2 ho3 hb hg_ hnew_; clear hg_ hnew_; (first | rw [← Ny284.out] at ho3 | (simp only [Int.reduceToNat] at ho3; rw [← Ny284.out] at ho3)); have HO286 := Aside0.mk (Kd.R_lower ho3 (below_size zb0)); replace HB := Aside0.mk (below_step zb0 hb); clear hb ho3)); try go_wp2_with (first | ((with_reducible refine gate_dst (N := 8) rfl ?_); refine Kd.R_lit (Kd.int .u8) _ 5 ?hg (N := 8) ?hd (xs := ([] : List Int)) (inner := []) (ok := fun _ => True) (okp := fun _ => True) ?hr ?hp (fun _ hk => hk) trivial (Below.refl _ _) (Nat.le_refl _) zb26 ?_; (case hd => rfl); (case hg => rfl); (case hr => exact zb15); (case hp => exact (Reps.none _ _)); intro v285 w2 ho3 hb hg_ hnew_; clear hg_ hnew_; (first | rw [← Ny284.out] at ho3 | (simp only [Int.reduceToNat] at ho3; rw [← Ny284.out] at ho3)); have HO286 := Aside0.mk (Kd.R_lower ho3 (below_size zb0)); replace HB := Aside0.mk (below_step zb0 hb); clear hb ho3)))
 go_loopg [4, 5] k (fun kq v4 v5 w' => ∃ (x4_1 : List Int) (x5_1 : Int), v5 = .int .i64 x5_1 ∧ Aside0 (impl_GetHex.l0 kq a0 x4_1 x5_1 = some (r1, r2)) ∧ Aside0 (kq ≤ k) ∧ Aside0 (Kd.R (Kd.int .u8) 5 w' w.heap.size (fun _ => True) v4 x4_1) ∧ Aside0 (Below w.heap.size w w'))
 case atStart => exact ⟨(y284), (0), zb7, H', ⟨Nat.le_refl _⟩, ⟨(zR HO286.out)⟩, ⟨zb0⟩⟩
 case round =>
  clear H'
  try clear p2
  obtain ⟨x4_1, x5_1, rfl, HA, HK1, HO_4, HB⟩ := hrel
  cases gk with
  | zero => exact absurd HA.out (by simp [impl_GetHex.l0])
  | succ k1 =>
   have H := HA.out
   clear HA
   simp only [impl_GetHex.l0] at H
   by_cases c4 : (wrap64 (x5_1 + 1)) < (a0.size : Int)
   ·rw [if_pos c4] at H
    have c4b0 : decide ((wrap64 (x5_1 + 1)) < (a0.size : Int)) = true := decide_eq_true c4
    clear c4
    by_cases c5 : 0 ≤ x5_1
    ·rw [if_pos c5] at H
     have c5b0 : decide (0 ≤ x5_1) = true := decide_eq_true c5
     clear c5
     by_cases c6 : x5_1 < (a0.size : Int)
     ·rw [if_pos c6] at H
      have c6b0 : decide (x5_1 < (a0.size : Int)) = true := decide_eq_true c6
      clear c6
      replace H := Option.bind_eq_some_iff.mp H
      obtain ⟨t287, A80, H⟩ := H
      try dsimp only at H
      have A8 := Aside0.mk A80
      clear A80
      obtain ⟨ji9, hji9⟩ : ∃ j_ : Int, (wrap64 (x5_1 + 1)) = j_ := ⟨_, rfl⟩
      replace H : (if 0 ≤ (ji9) then ((strings_IndexByte.f (⟨#[48, 49, 50, 51, 52, 53, 54, 55, 56, 57, 97, 98, 99, 100, 101, 102]⟩ : ByteArray) (bt a0 (ji9))).bind fun t288 => (if t287 < 0 then (some ((⟨#[]⟩ : ByteArray), false)) else (if t288 < 0 then (some ((⟨#[]⟩ : ByteArray), false)) else (if x4_1.length < 140737488355328 then (impl_GetHex.l0 k1 a0 (x4_1 ++ [(wrap64 ((wrap64 (16 * t287)) + t288)) % 256]) (wrap64 (x5_1 + 2))) else (none))))) else (none)) = some (r1, r2) := by first | (rw [hji9] at H; exact H) | (simp only [hji9] at H ⊢; exact H)
      (try rw [hji9] at c4b0)
      (try rw [hji9] at A8)
      have hji9w : (IntKind.i64.wrap (x5_1 + 1)) = ji9 := (i64_w _).trans hji9
      by_cases c10 : 0 ≤ (ji9)
      ·rw [if_pos c10] at H
       have c10b0 : decide (0 ≤ (ji9)) = true := decide_eq_true c10
       clear c10
       replace H := Option.bind_eq_some_iff.mp H
       obtain ⟨t288, A120, H⟩ := H
       try dsimp only at H
       have A12 := Aside0.mk A120
       clear A120
       by_cases c13 : t287 < 0
       ·rw [if_pos c13] at H
        have c13b0 : decide (t287 < 0) = true := decide_eq_true c13
        clear c13
        simp only [Option.some.injEq, Prod.mk.injEq] at H
        obtain ⟨rfl, rfl⟩ := H
        have p7 : 0 ≤ (x5_1 : Int) := of_decide_eq_true zb5
        have q7 : x5_1 < (a0.size : Int) := of_decide_eq_true zb5
        have hx7 := bt_at a0 x5_1
        replace p7 := eq_true p7
        replace q7 := eq_true q7
        go_wp2_with (first | (go_at_call 120; (with_reducible refine (strings_IndexByte.calls (⟨#[48, 49, 50, 51, 52, 53, 54, 55, 56, 57, 97, 98, 99, 100, 101, 102]⟩ : ByteArray) (bt a0 x5_1) t287 _ A8.out).mono ?_); rintro e w' ⟨rfl, ⟨nd, rfl⟩⟩; (try exact zb6); have p11 : 0 ≤ ((ji9) : Int) := of_decide_eq_true zb5; have q11 : (ji9) < (a0.size : Int) := of_decide_eq_true zb5; have hx11 := bt_at a0 (ji9); replace p11 := eq_true p11; replace q11 := eq_true q11) | (go_at_call 120; (with_reducible refine (strings_IndexByte.calls (⟨#[48, 49, 50, 51, 52, 53, 54, 55, 56, 57, 97, 98, 99, 100, 101, 102]⟩ : ByteArray) (bt a0 (ji9)) t288 _ A12.out).mono ?_); rintro e w' ⟨rfl, ⟨nd, rfl⟩⟩; (try exact zb6)))
        repeat (go_quiet (first | (go_at_call 120; (with_reducible refine (strings_IndexByte.calls (⟨#[48, 49, 50, 51, 52, 53, 54, 55, 56, 57, 97, 98, 99, 100, 101, 102]⟩ : ByteArray) (bt a0 x5_1) t287 _ A8.out).mono ?_); rintro e w' ⟨rfl, ⟨nd, rfl⟩⟩; (try exact zb6); have p11 : 0 ≤ ((ji9) : Int) := of_decide_eq_true zb5; have q11 : (ji9) < (a0.size : Int) := of_decide_eq_true zb5; have hx11 := bt_at a0 (ji9); replace p11 := eq_true p11; replace q11 := eq_true q11) | (go_at_call 120; (with_reducible refine (strings_IndexByte.calls (⟨#[48, 49, 50, 51, 52, 53, 54, 55, 56, 57, 97, 98, 99, 100, 101, 102]⟩ : ByteArray) (bt a0 (ji9)) t288 _ A12.out).mono ?_); rintro e w' ⟨rfl, ⟨nd, rfl⟩⟩; (try exact zb6))); try go_wp2_with (first | (go_at_call 120; (with_reducible refine (strings_IndexByte.calls (⟨#[48, 49, 50, 51, 52, 53, 54, 55, 56, 57, 97, 98, 99, 100, 101, 102]⟩ : ByteArray) (bt a0 x5_1) t287 _ A8.out).mono ?_); rintro e w' ⟨rfl, ⟨nd, rfl⟩⟩; (try exact zb6); have p11 : 0 ≤ ((ji9) : Int) := of_decide_eq_true zb5; have q11 : (ji9) < (a0.size : Int) := of_decide_eq_true zb5; have hx11 := bt_at a0 (ji9); replace p11 := eq_true p11; replace q11 := eq_true q11) | (go_at_call 120; (with_reducible refine (strings_IndexByte.calls (⟨#[48, 49, 50, 51, 52, 53, 54, 55, 56, 57, 97, 98, 99, 100, 101, 102]⟩ : ByteArray) (bt a0 (ji9)) t288 _ A12.out).mono ?_); rintro e w' ⟨rfl, ⟨nd, rfl⟩⟩; (try exact zb6))))
        go_ret2
        exact ⟨zb46, zb0⟩
       ·rw [if_neg c13] at H
        have c13b0 : decide (t287 < 0) = false := decide_eq_false c13
        clear c13
        by_cases c14 : t288 < 0
        ·rw [if_pos c14] at H
         have c14b0 : decide (t288 < 0) = true := decide_eq_true c14
         clear c14
         simp only [Option.some.injEq, Prod.mk.injEq] at H
         obtain ⟨rfl, rfl⟩ := H
         have p7 : 0 ≤ (x5_1 : Int) := of_decide_eq_true zb5
         have q7 : x5_1 < (a0.size : Int) := of_decide_eq_true zb5
         have hx7 := bt_at a0 x5_1
         replace p7 := eq_true p7
         replace q7 := eq_true q7
         go_wp2_with (first | (go_at_call 120; (with_reducible refine (strings_IndexByte.calls (⟨#[48, 49, 50, 51, 52, 53, 54, 55, 56, 57, 97, 98, 99, 100, 101, 102]⟩ : ByteArray) (bt a0 x5_1) t287 _ A8.out).mono ?_); rintro e w' ⟨rfl, ⟨nd, rfl⟩⟩; (try exact zb6); have p11 : 0 ≤ ((ji9) : Int) := of_decide_eq_true zb5; have q11 : (ji9) < (a0.size : Int) := of_decide_eq_true zb5; have hx11 := bt_at a0 (ji9); replace p11 := eq_true p11; replace q11 := eq_true q11) | (go_at_call 120; (with_reducible refine (strings_IndexByte.calls (⟨#[48, 49, 50, 51, 52, 53, 54, 55, 56, 57, 97, 98, 99, 100, 101, 102]⟩ : ByteArray) (bt a0 (ji9)) t288 _ A12.out).mono ?_); rintro e w' ⟨rfl, ⟨nd, rfl⟩⟩; (try exact zb6)))
         repeat (go_quiet (first | (go_at_call 120; (with_reducible refine (strings_IndexByte.calls (⟨#[48, 49, 50, 51, 52, 53, 54, 55, 56, 57, 97, 98, 99, 100, 101, 102]⟩ : ByteArray) (bt a0 x5_1) t287 _ A8.out).mono ?_); rintro e w' ⟨rfl, ⟨nd, rfl⟩⟩; (try exact zb6); have p11 : 0 ≤ ((ji9) : Int) := of_decide_eq_true zb5; have q11 : (ji9) < (a0.size : Int) := of_decide_eq_true zb5; have hx11 := bt_at a0 (ji9); replace p11 := eq_true p11; replace q11 := eq_true q11) | (go_at_call 120; (with_reducible refine (strings_IndexByte.calls (⟨#[48, 49, 50, 51, 52, 53, 54, 55, 56, 57, 97, 98, 99, 100, 101, 102]⟩ : ByteArray) (bt a0 (ji9)) t288 _ A12.out).mono ?_); rintro e w' ⟨rfl, ⟨nd, rfl⟩⟩; (try exact zb6))); try go_wp2_with (first | (go_at_call 120; (with_reducible refine (strings_IndexByte.calls (⟨#[48, 49, 50, 51, 52, 53, 54, 55, 56, 57, 97, 98, 99, 100, 101, 102]⟩ : ByteArray) (bt a0 x5_1) t287 _ A8.out).mono ?_); rintro e w' ⟨rfl, ⟨nd, rfl⟩⟩; (try exact zb6); have p11 : 0 ≤ ((ji9) : Int) := of_decide_eq_true zb5; have q11 : (ji9) < (a0.size : Int) := of_decide_eq_true zb5; have hx11 := bt_at a0 (ji9); replace p11 := eq_true p11; replace q11 := eq_true q11) | (go_at_call 120; (with_reducible refine (strings_IndexByte.calls (⟨#[48, 49, 50, 51, 52, 53, 54, 55, 56, 57, 97, 98, 99, 100, 101, 102]⟩ : ByteArray) (bt a0 (ji9)) t288 _ A12.out).mono ?_); rintro e w' ⟨rfl, ⟨nd, rfl⟩⟩; (try exact zb6))))
         go_ret2
         exact ⟨zb46, zb0⟩
        ·rw [if_neg c14] at H
         have c14b0 : decide (t288 < 0) = false := decide_eq_false c14
         clear c14
         by_cases c15 : x4_1.length < 140737488355328
         ·rw [if_pos c15] at H
          have LMc15 := Aside0.mk c15
          clear c15
          obtain ⟨y289, hy289⟩ : ∃ y_ : List Int, y_ = (x4_1 ++ [(wrap64 ((wrap64 (16 * t287)) + t288)) % 256]) := ⟨_, rfl⟩
          replace H : (impl_GetHex.l0 k1 a0 y289 (wrap64 (x5_1 + 2))) = some (r1, r2) := by first | (rw [hy289]; with_reducible exact H) | (have H2_ := (Option.bind_some _ _).symm.trans H; rw [hy289]; with_reducible exact H2_) | (have H2_ := (Option.bind_some _ _).symm.trans H; with_reducible exact H2_) | with_reducible exact H | (rw [hy289]; exact H) | exact H
          have Ny289 := Aside0.mk hy289
          clear hy289
          have H' := Aside0.mk H
          clear H
          have p7 : 0 ≤ (x5_1 : Int) := of_decide_eq_true zb5
          have q7 : x5_1 < (a0.size : Int) := of_decide_eq_true zb5
          have hx7 := bt_at a0 x5_1
          replace p7 := eq_true p7
          replace q7 := eq_true q7
          go_wp2_with (first | (go_at_call 120; (with_reducible refine (strings_IndexByte.calls (⟨#[48, 49, 50, 51, 52, 53, 54, 55, 56, 57, 97, 98, 99, 100, 101, 102]⟩ : ByteArray) (bt a0 x5_1) t287 _ A8.out).mono ?_); rintro e w' ⟨rfl, ⟨nd, rfl⟩⟩; (try exact zb6); have p11 : 0 ≤ ((ji9) : Int) := of_decide_eq_true zb5; have q11 : (ji9) < (a0.size : Int) := of_decide_eq_true zb5; have hx11 := bt_at a0 (ji9); replace p11 := eq_true p11; replace q11 := eq_true q11) | (go_at_call 120; (with_reducible refine (strings_IndexByte.calls (⟨#[48, 49, 50, 51, 52, 53, 54, 55, 56, 57, 97, 98, 99, 100, 101, 102]⟩ : ByteArray) (bt a0 (ji9)) t288 _ A12.out).mono ?_); rintro e w' ⟨rfl, ⟨nd, rfl⟩⟩; (try exact zb6)) | ((with_reducible refine gate_builtin (b := .append) (xs := #[.tmp 31, .tmp 37]) rfl ?_); at_builtin; refine Kd.R_append (Kd.int .u8) (w0 := w) w.heap.size rfl (.tmp 31) (.tmp 37) 22 5 (.int .u8 0) 1 rfl Tryz.underlying22 info5 rfl zb33 zb40 u4 x4_1 ((wrap64 ((wrap64 (16 * t287)) + t288)) % 256) [.int .u8 ((wrap64 ((wrap64 (16 * t287)) + t288)) % 256)] (fun _ => True) (fun _ => False) rfl rfl ?aP (fun _ hk => hk.elim) ?aF ?aO ?aB ?aS ?aL ?_; (case aP => exact rfl); (case aB => exact zb0); (case aF => exact (fun _ _ => trivial)); (case aO => exact (zR HO_4.out)); (case aS => exact (below_size zb0)); (case aL => have := LMc15.out; omega); intro v290 w16 ho hb hg hat; rw [← Ny289.out] at ho; replace HB := Aside0.mk hb; have HO291 := Aside0.mk ho; clear HO_4 ho hb hg hat))
          repeat (go_quiet (first | (go_at_call 120; (with_reducible refine (strings_IndexByte.calls (⟨#[48, 49, 50, 51, 52, 53, 54, 55, 56, 57, 97, 98, 99, 100, 101, 102]⟩ : ByteArray) (bt a0 x5_1) t287 _ A8.out).mono ?_); rintro e w' ⟨rfl, ⟨nd, rfl⟩⟩; (try exact zb6); have p11 : 0 ≤ ((ji9) : Int) := of_decide_eq_true zb5; have q11 : (ji9) < (a0.size : Int) := of_decide_eq_true zb5; have hx11 := bt_at a0 (ji9); replace p11 := eq_true p11; replace q11 := eq_true q11) | (go_at_call 120; (with_reducible refine (strings_IndexByte.calls (⟨#[48, 49, 50, 51, 52, 53, 54, 55, 56, 57, 97, 98, 99, 100, 101, 102]⟩ : ByteArray) (bt a0 (ji9)) t288 _ A12.out).mono ?_); rintro e w' ⟨rfl, ⟨nd, rfl⟩⟩; (try exact zb6)) | ((with_reducible refine gate_builtin (b := .append) (xs := #[.tmp 31, .tmp 37]) rfl ?_); at_builtin; refine Kd.R_append (Kd.int .u8) (w0 := w) w.heap.size rfl (.tmp 31) (.tmp 37) 22 5 (.int .u8 0) 1 rfl Tryz.underlying22 info5 rfl zb33 zb40 u4 x4_1 ((wrap64 ((wrap64 (16 * t287)) + t288)) % 256) [.int .u8 ((wrap64 ((wrap64 (16 * t287)) + t288)) % 256)] (fun _ => True) (fun _ => False) rfl rfl ?aP (fun _ hk => hk.elim) ?aF ?aO ?aB ?aS ?aL ?_; (case aP => exact rfl); (case aB => exact zb0); (case aF => exact (fun _ _ => trivial)); (case aO => exact (zR HO_4.out)); (case aS => exact (below_size zb0)); (case aL => have := LMc15.out; omega); intro v290 w16 ho hb hg hat; rw [← Ny289.out] at ho; replace HB := Aside0.mk hb; have HO291 := Aside0.mk ho; clear HO_4 ho hb hg hat)); try go_wp2_with (first | (go_at_call 120; (with_reducible refine (strings_IndexByte.calls (⟨#[48, 49, 50, 51, 52, 53, 54, 55, 56, 57, 97, 98, 99, 100, 101, 102]⟩ : ByteArray) (bt a0 x5_1) t287 _ A8.out).mono ?_); rintro e w' ⟨rfl, ⟨nd, rfl⟩⟩; (try exact zb6); have p11 : 0 ≤ ((ji9) : Int) := of_decide_eq_true zb5; have q11 : (ji9) < (a0.size : Int) := of_decide_eq_true zb5; have hx11 := bt_at a0 (ji9); replace p11 := eq_true p11; replace q11 := eq_true q11) | (go_at_call 120; (with_reducible refine (strings_IndexByte.calls (⟨#[48, 49, 50, 51, 52, 53, 54, 55, 56, 57, 97, 98, 99, 100, 101, 102]⟩ : ByteArray) (bt a0 (ji9)) t288 _ A12.out).mono ?_); rintro e w' ⟨rfl, ⟨nd, rfl⟩⟩; (try exact zb6)) | ((with_reducible refine gate_builtin (b := .append) (xs := #[.tmp 31, .tmp 37]) rfl ?_); at_builtin; refine Kd.R_append (Kd.int .u8) (w0 := w) w.heap.size rfl (.tmp 31) (.tmp 37) 22 5 (.int .u8 0) 1 rfl Tryz.underlying22 info5 rfl zb33 zb40 u4 x4_1 ((wrap64 ((wrap64 (16 * t287)) + t288)) % 256) [.int .u8 ((wrap64 ((wrap64 (16 * t287)) + t288)) % 256)] (fun _ => True) (fun _ => False) rfl rfl ?aP (fun _ hk => hk.elim) ?aF ?aO ?aB ?aS ?aL ?_; (case aP => exact rfl); (case aB => exact zb0); (case aF => exact (fun _ _ => trivial)); (case aO => exact (zR HO_4.out)); (case aS => exact (below_size zb0)); (case aL => have := LMc15.out; omega); intro v290 w16 ho hb hg hat; rw [← Ny289.out] at ho; replace HB := Aside0.mk hb; have HO291 := Aside0.mk ho; clear HO_4 ho hb hg hat)))
          go_roundg k1
          case measure => have := HK1.out; omega
          case rel => exact ⟨(y289), (wrap64 (x5_1 + 2)), zb7, H', ⟨by have := HK1.out; omega⟩, ⟨(zR HO291.out)⟩, ⟨zb0⟩⟩
         ·rw [if_neg c15] at H
          exact absurd H zb26
      ·rw [if_neg c10] at H
       exact absurd H zb26
     ·rw [if_neg c6] at H
      exact absurd H zb26
    ·rw [if_neg c5] at H
     exact absurd H zb26
   ·rw [if_neg c4] at H
    have c4b0 : decide ((wrap64 (x5_1 + 1)) < (a0.size : Int)) = false := decide_eq_false c4
    clear c4
    by_cases c17 : ((a0.size : Int) % 2) = 1
    ·rw [if_pos c17] at H
     have c17b0 : (((a0.size : Int) % 2) == 1) = true := beq_iff_eq.mpr c17
     have c17b1 : (((a0.size : Int) % 2) != 1) = false := bne_eq_false_iff_eq.mpr c17
     clear c17
     simp only [Option.some.injEq, Prod.mk.injEq] at H
     obtain ⟨rfl, rfl⟩ := H
     go_wp2
     repeat (go_quiet (fail); try go_wp2)
     go_ret2
     exact ⟨zb8, zb0⟩
    ·rw [if_neg c17] at H
     have c17b0 : (((a0.size : Int) % 2) == 1) = false := beq_eq_false_iff_ne.mpr c17
     have c17b1 : (((a0.size : Int) % 2) != 1) = true := bne_iff_ne.mpr c17
     simp only [Option.some.injEq, Prod.mk.injEq] at H
     obtain ⟨rfl, rfl⟩ := H
     have hcv18 := own_string (P := Tryz.prog) Tryz.underlying22 Tryz.underlying5 Tryz.underlying9 (Kd.own_of_R HO_4.out)
     have hcvd19 := fun n_ : Nat => own_string (P := Tryz.prog) Tryz.underlying22 Tryz.underlying5 Tryz.underlying9 (Kd.own_of_R (Kd.R_drewN HO_4.out n_))
     go_wp2
     repeat (go_quiet (fail); try go_wp2)
     go_ret2
     exact ⟨zb8, zb0⟩
end Go.Proofs.YtbfbomcfmgdpkaaGreatDoor.G

end
