/- A part of the proof that the law FnTexts answers true at every input that its row speaks of. Conditions: the row's own. -/
import Derived.Test.YtbfbomcfmgdpkaaGreatDoorOpZ
import Derived.Test.YtbfbomcfmgdpkaaGreatDoorKFnTexts0
import Derived.Test.YtbfbomcfmgdpkaaGreatDoorMFnTexts4
import Derived.Test.YtbfbomcfmgdpkaaGreatDoorMFnTexts3
import Derived.Test.YtbfbomcfmgdpkaaGreatDoorMFnTexts2
section
namespace Go.Proofs.YtbfbomcfmgdpkaaGreatDoor.G
open Go.RowKit Go.Proofs.YtbfbomcfmgdpkaaGreatDoorW.PrintWords Go.Proofs.YtbfbomcfmgdpkaaGreatDoorW.PrintLast Go.Proofs.YtbfbomcfmgdpkaaGreatDoorW.PrintMore
attribute [local go_sem] max2_int min2_int max_two min_two max_three min_three max_four min_four
attribute [local go_sem high] Go.Proofs.YtbfbomcfmgdpkaaGreatDoor.G.str_gtr Go.Proofs.YtbfbomcfmgdpkaaGreatDoor.G.str_leq Go.Proofs.YtbfbomcfmgdpkaaGreatDoor.G.str_geq
set_option linter.unusedVariables false
set_option linter.unusedSimpArgs false
def impl_Unquote.T12 : Bool × List (List Nat × List Nat) := (true, [([], []), ([0], [0]), ([], []), ([], []), ([], []), ([4], [4]), ([2, 3, 5], [2, 3, 5]), ([1, 6], [1, 6])])
def impl_Unquote.B12 : List Nat := [0, 1, 0, 0, 0, 16, 60, 127]
theorem impl_Unquote.tab12 : rtab .any (opsOf Tryz.f25 12) = impl_Unquote.T12 := by kernel_rfl
theorem impl_Unquote.bits12 : waitsOk impl_Unquote.T12.2 impl_Unquote.B12 = true := by kernel_rfl
set_option maxHeartbeats 8000000 in
set_option maxRecDepth 100000 in
theorem impl_Unquote.calls (k : Nat) (a0 : ByteArray) (a1 : Int) (r1 : ByteArray) (r2 : Int) (w : World) (h : impl_Unquote.f k a0 a1 = some (r1, r2)) :
  Calls Tryz.prog 25 #[.string a0, .int .i64 a1] w fun e w' => e = .returned (.tuple #[.string r1, .int .i64 r2]) ∧ Below w.heap.size w w' := by
 have HB := Aside0.mk (Below.refl w.heap.size w)
 have H : ((impl_within.f a1 0 (wrap64 ((a0.size : Int) - 1))).bind fun t292 => (if t292 = true then (if 0 ≤ a1 then (if a1 < (a0.size : Int) then (impl_Unquote.j0 k a0 a1 ((bt a0 a1) != 34)) else (none)) else (none)) else (impl_Unquote.j0 k a0 a1 true))) = some (r1, r2) := h
 clear h
 have HC3 := Aside0.mk H
 clear H
 go_enter Tryz.func25, Tryz.ntmps25
 go_upto_region 1 with (fail)
 go_cut [23] (fun v23 wc => ∃ (kq : Nat) (x23_2 : Bool), v23 = .bool x23_2 ∧ Aside0 (impl_Unquote.j0 kq a0 a1 x23_2 = some (r1, r2)) ∧ Aside0 (kq ≤ k) ∧ Aside0 (Below w.heap.size w wc))
 case first =>
  have H := HC3.out
  clear HC3
  replace H := Option.bind_eq_some_iff.mp H
  obtain ⟨t292, A40, H⟩ := H
  try dsimp only at H
  have A4 := Aside0.mk A40
  clear A40
  by_cases c5 : t292 = true
  ·subst c5
   rw [if_pos rfl] at H
   by_cases c6 : 0 ≤ a1
   ·rw [if_pos c6] at H
    have c6b0 : decide (0 ≤ a1) = true := decide_eq_true c6
    clear c6
    (first | rw [c6b0] | (simp only [i64_w, i32_w]; rw [c6b0]) | skip)
    by_cases c7 : a1 < (a0.size : Int)
    ·rw [if_pos c7] at H
     have c7b0 : decide (a1 < (a0.size : Int)) = true := decide_eq_true c7
     clear c7
     have H' := Aside0.mk H
     clear H
     go_wp2_with (first | ((with_reducible refine gate_callee (f := 67) rfl ?_); refine goesL_ (some 16) rfl rfl Tryz.func67 zb13 rfl #[.int .i64 a1, .int .i64 0, .int .i64 (wrap64 ((a0.size : Int) - 1))] rfl zb2 ?_; (with_reducible refine (impl_within.calls a1 0 (wrap64 ((a0.size : Int) - 1)) true _ A4.out).mono ?_); rintro e w' ⟨rfl, ⟨nd, rfl⟩⟩; refine ⟨_, rfl, ?_⟩; have p8 : 0 ≤ (a1 : Int) := of_decide_eq_true zb5; have q8 : a1 < (a0.size : Int) := of_decide_eq_true zb5; have hx8 := bt_at a0 a1; replace p8 := eq_true p8; replace q8 := eq_true q8))
     go_meet
     case rel => exact ⟨_, (((bt a0 a1) != 34)), zb7, H', ⟨zb37⟩, ⟨zb0⟩⟩
    ·rw [if_neg c7] at H
     exact absurd H zb26
   ·rw [if_neg c6] at H
    exact absurd H zb26
  ·replace c5 := Bool.eq_false_iff.mpr c5
   subst c5
   rw [if_neg (show ¬ (false = true) by decide)] at H
   have H' := Aside0.mk H
   clear H
   go_wp2_with (first | ((with_reducible refine gate_callee (f := 67) rfl ?_); refine goesL_ (some 16) rfl rfl Tryz.func67 zb13 rfl #[.int .i64 a1, .int .i64 0, .int .i64 (wrap64 ((a0.size : Int) - 1))] rfl zb2 ?_; (with_reducible refine (impl_within.calls a1 0 (wrap64 ((a0.size : Int) - 1)) false _ A4.out).mono ?_); rintro e w' ⟨rfl, ⟨nd, rfl⟩⟩; refine ⟨_, rfl, ?_⟩))
   go_meet
   case rel => exact ⟨_, (true), zb7, H', ⟨zb37⟩, ⟨zb0⟩⟩
 case rest =>
  clear HC3
  try clear c2
  try clear p2
  try clear c5
  try clear c6
  try clear c6b0
  try clear p6
  try clear c7
  try clear c7b0
  try clear p8
  try clear q8
  try clear hx8
  try clear p8
  try clear q8
  obtain ⟨kq, x23_2, rfl, HA, HJ2, HB⟩ := hcut
  cases kq with
  | zero => exact absurd HA.out (by simp [impl_Unquote.j0])
  | succ kj2 =>
   have H := HA.out
   clear HA
   simp only [impl_Unquote.j0] at H
   by_cases c9 : x23_2 = true
   ·subst c9
    rw [if_pos rfl] at H
    simp only [Option.some.injEq, Prod.mk.injEq] at H
    obtain ⟨rfl, rfl⟩ := H
    go_wp2
    go_ret2
    exact ⟨zb8, zb0⟩
   ·replace c9 := Bool.eq_false_iff.mpr c9
    subst c9
    rw [if_neg (show ¬ (false = true) by decide)] at H
    obtain ⟨y293, hy293⟩ : ∃ y_ : List Int, y_ = (([] : List Int)) := ⟨_, rfl⟩
    replace H : (impl_Unquote.l0 kj2 a0 a1 y293 (wrap64 (a1 + 1))) = some (r1, r2) := by first | (rw [hy293]; with_reducible exact H) | (have H2_ := (Option.bind_some _ _).symm.trans H; rw [hy293]; with_reducible exact H2_) | (have H2_ := (Option.bind_some _ _).symm.trans H; with_reducible exact H2_) | with_reducible exact H | (rw [hy293]; exact H) | exact H
    have Ny293 := Aside0.mk hy293
    clear hy293
    have H' := Aside0.mk H
    clear H
    go_wp2_with (first | ((with_reducible refine gate_dst (N := 24) rfl ?_); refine Kd.R_lit (Kd.int .u8) _ 5 ?hg (N := 24) ?hd (xs := ([] : List Int)) (inner := []) (ok := fun _ => True) (okp := fun _ => True) ?hr ?hp (fun _ hk => hk) trivial (Below.refl _ _) (Nat.le_refl _) zb26 ?_; (case hd => rfl); (case hg => rfl); (case hr => exact zb15); (case hp => exact (Reps.none _ _)); intro v294 w10 ho11 hb hg_ hnew_; clear hg_ hnew_; (first | rw [← Ny293.out] at ho11 | (simp only [Int.reduceToNat] at ho11; rw [← Ny293.out] at ho11)); have HO295 := Aside0.mk (Kd.R_lower ho11 (below_size zb0)); replace HB := Aside0.mk (below_step zb0 hb); clear hb ho11))
    go_loopg [6, 7] kj2 (fun kq v6 v7 w' => ∃ (x6_2 : List Int) (x7_2 : Int), v7 = .int .i64 x7_2 ∧ Aside0 (impl_Unquote.l0 kq a0 a1 x6_2 x7_2 = some (r1, r2)) ∧ Aside0 (kq ≤ kj2) ∧ Aside0 (Kd.R (Kd.int .u8) 5 w' w.heap.size (fun _ => True) v6 x6_2) ∧ Aside0 (Below w.heap.size w w'))
    case atStart => exact ⟨(y293), (wrap64 (a1 + 1)), zb7, H', ⟨Nat.le_refl _⟩, ⟨(zR HO295.out)⟩, ⟨zb0⟩⟩
    case round =>
     clear H'
     try clear c2
     try clear p2
     try clear c5
     try clear c6
     try clear c6b0
     try clear p6
     try clear c7
     try clear c7b0
     try clear p8
     try clear q8
     try clear hx8
     try clear c9
     try clear p2
     try clear p6
     try clear p8
     try clear q8
     obtain ⟨x6_2, x7_2, rfl, HA, HK2, HO_6, HB⟩ := hrel
     cases gk with
     | zero => exact absurd HA.out (by simp [impl_Unquote.l0])
     | succ k2 =>
      have H := HA.out
      clear HA
      simp only [impl_Unquote.l0] at H
      by_cases c12 : x7_2 < (a0.size : Int)
      ·rw [if_pos c12] at H
       have c12b0 : decide (x7_2 < (a0.size : Int)) = true := decide_eq_true c12
       clear c12
       by_cases c13 : 0 ≤ x7_2
       ·rw [if_pos c13] at H
        have c13b0 : decide (0 ≤ x7_2) = true := decide_eq_true c13
        clear c13
        by_cases c15 : (bt a0 x7_2) = 34
        ·rw [if_pos c15] at H
         have c15b0 : ((bt a0 x7_2) == 34) = true := beq_iff_eq.mpr c15
         have c15b1 : ((bt a0 x7_2) != 34) = false := bne_eq_false_iff_eq.mpr c15
         clear c15
         replace H := Option.bind_eq_some_iff.mp H
         obtain ⟨t296, A160, H⟩ := H
         try dsimp only at H
         have A16 := Aside0.mk A160
         clear A160
         by_cases c17 : 0 ≤ a1
         ·rw [if_pos c17] at H
          have c17b0 := eq_true c17
          have c17b1 : decide (0 ≤ a1) = true := decide_eq_true c17
          clear c17
          by_cases c18 : a1 ≤ (wrap64 (x7_2 + 1))
          ·rw [if_pos c18] at H
           have c18b0 := eq_true c18
           have c18b1 : decide (a1 ≤ (wrap64 (x7_2 + 1))) = true := decide_eq_true c18
           by_cases c19 : (wrap64 (x7_2 + 1)) ≤ (a0.size : Int)
           ·rw [if_pos c19] at H
            have c19b0 := eq_true c19
            have c19b1 : decide ((wrap64 (x7_2 + 1)) ≤ (a0.size : Int)) = true := decide_eq_true c19
            obtain ⟨js20, hjs20⟩ : ∃ j_ : ByteArray, (a0.extract (a1 : Int).toNat ((wrap64 (x7_2 + 1)) : Int).toNat) = j_ := ⟨_, rfl⟩
            replace H : (if t296.toList = (js20).toList then (some (strOfNums x6_2, wrap64 (x7_2 + 1))) else (some ((⟨#[]⟩ : ByteArray), (-1)))) = some (r1, r2) := by first | (rw [hjs20] at H; exact H) | (simp only [hjs20] at H ⊢; exact H)
            (try rw [hjs20] at A16)
            by_cases c21 : t296.toList = (js20).toList
            ·rw [if_pos c21] at H
             have c21b0 : (t296.toList == (js20).toList) = true := beq_iff_eq.mpr c21
             have c21b1 : (t296.toList != (js20).toList) = false := bne_eq_false_iff_eq.mpr c21
             clear c21
             simp only [Option.some.injEq, Prod.mk.injEq] at H
             obtain ⟨rfl, rfl⟩ := H
             have p14 : 0 ≤ (x7_2 : Int) := of_decide_eq_true zb5
             have q14 : x7_2 < (a0.size : Int) := of_decide_eq_true zb5
             have hx14 := bt_at a0 x7_2
             replace p14 := eq_true p14
             replace q14 := eq_true q14
             have hcv22 := own_string (P := Tryz.prog) Tryz.underlying22 Tryz.underlying5 Tryz.underlying9 (Kd.own_of_R HO_6.out)
             have hcvd23 := fun n_ : Nat => own_string (P := Tryz.prog) Tryz.underlying22 Tryz.underlying5 Tryz.underlying9 (Kd.own_of_R (Kd.R_drewN HO_6.out n_))
             try go_wp2
             replace HO_6 := Aside0.mk (Kd.R_drew HO_6.out)
             replace HB := Aside0.mk (below_drew1 HB.out)
             refine start_ (n := 8) (S := fun w' => True) (ds := []) #[false, false, false, false, false, false, false, false] zb13 rfl rfl trivial (fun hHeld => ?_); refine with_tabW impl_Unquote.tab12 impl_Unquote.bits12 (fun HT_ HW_ => ?_)
             generalize wr.drew = w24 at HO_6 HB hHeld ⊢
             refine pz 0 50 ?_
             refine pz 2 52 ?_
             refine pz 3 53 ?_
             refine pz 4 54 ?_
             refine pz 5 55 ?_
             refine pz 6 56 ?_
             refine one_ (i := 1) (N := some 51) #[true, true, true, true, true, true, true, false] rfl rfl (one_of HT_.out zb13) zb33 (fun K hK => ?_)
             refine goes_ Tryz.func23 zb13 rfl #[.string (strOfNums x6_2)] (by rfl) rfl rfl zb2 ?_
             with_reducible refine (impl_Quote.calls k2 (strOfNums x6_2) t296 _ A16.out).mono ?_
             rintro e w25 ⟨rfl, hb⟩
             refine ⟨_, rfl, ?_⟩
             replace HO_6 := Aside0.mk (Kd.R_below (zR HO_6.out) hb)
             replace HB := Aside0.mk (below_step zb0 hb)
             (try clear hb)
             refine hK.out _ _ trivial (fun hHeld => ?_)
             clear hK K
             refine norm_ (a' := ?_) ?_ ?_
             rotate_left
             ·show Act.put _ (some 51) _ = _
              simp only [Act.put, List.setIfInBounds_toArray, List.set_cons_zero, List.set_cons_succ, i64_w, i32_w]
              rfl
             refine pz 7 57 ?_
             refine done_ (done_of HT_.out zb13) ?_
             try go_wp2
             go_ret2
             exact ⟨zb42, zb0⟩
            ·rw [if_neg c21] at H
             have c21b0 : (t296.toList == (js20).toList) = false := beq_eq_false_iff_ne.mpr c21
             have c21b1 : (t296.toList != (js20).toList) = true := bne_iff_ne.mpr c21
             simp only [Option.some.injEq, Prod.mk.injEq] at H
             obtain ⟨rfl, rfl⟩ := H
             have p14 : 0 ≤ (x7_2 : Int) := of_decide_eq_true zb5
             have q14 : x7_2 < (a0.size : Int) := of_decide_eq_true zb5
             have hx14 := bt_at a0 x7_2
             replace p14 := eq_true p14
             replace q14 := eq_true q14
             have hcv26 := own_string (P := Tryz.prog) Tryz.underlying22 Tryz.underlying5 Tryz.underlying9 (Kd.own_of_R HO_6.out)
             have hcvd27 := fun n_ : Nat => own_string (P := Tryz.prog) Tryz.underlying22 Tryz.underlying5 Tryz.underlying9 (Kd.own_of_R (Kd.R_drewN HO_6.out n_))
             try go_wp2
             replace HO_6 := Aside0.mk (Kd.R_drew HO_6.out)
             replace HB := Aside0.mk (below_drew1 HB.out)
             refine start_ (n := 8) (S := fun w' => True) (ds := []) #[false, false, false, false, false, false, false, false] zb13 rfl rfl trivial (fun hHeld => ?_); refine with_tabW impl_Unquote.tab12 impl_Unquote.bits12 (fun HT_ HW_ => ?_)
             generalize wr.drew = w28 at HO_6 HB hHeld ⊢
             refine pz 0 50 ?_
             refine pz 2 52 ?_
             refine pz 3 53 ?_
             refine pz 4 54 ?_
             refine pz 5 55 ?_
             refine pz 6 56 ?_
             refine one_ (i := 1) (N := some 51) #[true, true, true, true, true, true, true, false] rfl rfl (one_of HT_.out zb13) zb33 (fun K hK => ?_)
             refine goes_ Tryz.func23 zb13 rfl #[.string (strOfNums x6_2)] (by rfl) rfl rfl zb2 ?_
             with_reducible refine (impl_Quote.calls k2 (strOfNums x6_2) t296 _ A16.out).mono ?_
             rintro e w29 ⟨rfl, hb⟩
             refine ⟨_, rfl, ?_⟩
             replace HO_6 := Aside0.mk (Kd.R_below (zR HO_6.out) hb)
             replace HB := Aside0.mk (below_step zb0 hb)
             (try clear hb)
             refine hK.out _ _ trivial (fun hHeld => ?_)
             clear hK K
             refine norm_ (a' := ?_) ?_ ?_
             rotate_left
             ·show Act.put _ (some 51) _ = _
              simp only [Act.put, List.setIfInBounds_toArray, List.set_cons_zero, List.set_cons_succ, i64_w, i32_w]
              rfl
             refine pz 7 57 ?_
             refine done_ (done_of HT_.out zb13) ?_
             try go_wp2
             go_ret2
             exact ⟨zb42, zb0⟩
           ·rw [if_neg c19] at H
            exact absurd H zb26
          ·rw [if_neg c18] at H
           exact absurd H zb26
         ·rw [if_neg c17] at H
          exact absurd H zb26
        ·rw [if_neg c15] at H
         have c15b0 : ((bt a0 x7_2) == 34) = false := beq_eq_false_iff_ne.mpr c15
         have c15b1 : ((bt a0 x7_2) != 34) = true := bne_iff_ne.mpr c15
         by_cases c30 : (bt a0 x7_2) = 92
         ·rw [if_pos c30] at H
          have c30b0 : ((bt a0 x7_2) == 92) = true := beq_iff_eq.mpr c30
          have c30b1 : ((bt a0 x7_2) != 92) = false := bne_eq_false_iff_eq.mpr c30
          clear c30
          by_cases c31 : (wrap64 (x7_2 + 1)) = (a0.size : Int)
          ·rw [if_pos c31] at H
           have c31b0 : ((wrap64 (x7_2 + 1)) == (a0.size : Int)) = true := beq_iff_eq.mpr c31
           have c31b1 : ((wrap64 (x7_2 + 1)) != (a0.size : Int)) = false := bne_eq_false_iff_eq.mpr c31
           clear c31
           simp only [Option.some.injEq, Prod.mk.injEq] at H
           obtain ⟨rfl, rfl⟩ := H
           have p14 : 0 ≤ (x7_2 : Int) := of_decide_eq_true zb5
           have q14 : x7_2 < (a0.size : Int) := of_decide_eq_true zb5
           have hx14 := bt_at a0 x7_2
           replace p14 := eq_true p14
           replace q14 := eq_true q14
           go_wp2
           go_ret2
           exact ⟨zb8, zb0⟩
          ·rw [if_neg c31] at H
           have c31b0 : ((wrap64 (x7_2 + 1)) == (a0.size : Int)) = false := beq_eq_false_iff_ne.mpr c31
           have c31b1 : ((wrap64 (x7_2 + 1)) != (a0.size : Int)) = true := bne_iff_ne.mpr c31
           obtain ⟨ji32, hji32⟩ : ∃ j_ : Int, (wrap64 (x7_2 + 1)) = j_ := ⟨_, rfl⟩
           replace H : (if 0 ≤ (ji32) then (if (ji32) < (a0.size : Int) then (if (bt a0 (ji32)) = 110 then (if x6_2.length < 140737488355328 then (impl_Unquote.l0 k2 a0 a1 (x6_2 ++ [10]) (wrap64 ((ji32) + 1))) else (none)) else (if (bt a0 (ji32)) = 120 then (if (wrap64 (x7_2 + 4)) > (a0.size : Int) then (some ((⟨#[]⟩ : ByteArray), (-1))) else (if 0 ≤ (wrap64 (x7_2 + 2)) then (if (wrap64 (x7_2 + 2)) ≤ (wrap64 (x7_2 + 4)) then (if (wrap64 (x7_2 + 4)) ≤ (a0.size : Int) then ((impl_GetHex.f k2 (a0.extract ((wrap64 (x7_2 + 2)) : Int).toNat ((wrap64 (x7_2 + 4)) : Int).toNat)).bind fun bt300 => (if bt300.2 = true then (if x6_2.length + bt300.1.size < 140737488355328 then (impl_Unquote.l0 k2 a0 a1 (x6_2 ++ bytesOf bt300.1) (wrap64 ((wrap64 (x7_2 + 3)) + 1))) else (none)) else (some ((⟨#[]⟩ : ByteArray), (-1))))) else (none)) else (none)) else (none))) else (if x6_2.length < 140737488355328 then (impl_Unquote.l0 k2 a0 a1 (x6_2 ++ [bt a0 (ji32)]) (wrap64 ((ji32) + 1))) else (none)))) else (none)) else (none)) = some (r1, r2) := by first | (rw [hji32] at H; exact H) | (simp only [hji32] at H ⊢; exact H)
           (try rw [hji32] at c31b0)
           (try rw [hji32] at c31b1)
           have hji32w : (IntKind.i64.wrap (x7_2 + 1)) = ji32 := (i64_w _).trans hji32
           by_cases c33 : 0 ≤ (ji32)
           ·rw [if_pos c33] at H
            have c33b0 : decide (0 ≤ (ji32)) = true := decide_eq_true c33
            clear c33
            by_cases c34 : (ji32) < (a0.size : Int)
            ·rw [if_pos c34] at H
             have c34b0 : decide ((ji32) < (a0.size : Int)) = true := decide_eq_true c34
             clear c34
             by_cases c36 : (bt a0 (ji32)) = 110
             ·rw [if_pos c36] at H
              have c36b0 : ((bt a0 (ji32)) == 110) = true := beq_iff_eq.mpr c36
              have c36b1 : ((bt a0 (ji32)) != 110) = false := bne_eq_false_iff_eq.mpr c36
              clear c36
              by_cases c37 : x6_2.length < 140737488355328
              ·rw [if_pos c37] at H
               have LMc37 := Aside0.mk c37
               clear c37
               obtain ⟨y297, hy297⟩ : ∃ y_ : List Int, y_ = (x6_2 ++ [10]) := ⟨_, rfl⟩
               replace H : (impl_Unquote.l0 k2 a0 a1 y297 (wrap64 ((ji32) + 1))) = some (r1, r2) := by first | (rw [hy297]; with_reducible exact H) | (have H2_ := (Option.bind_some _ _).symm.trans H; rw [hy297]; with_reducible exact H2_) | (have H2_ := (Option.bind_some _ _).symm.trans H; with_reducible exact H2_) | with_reducible exact H | (rw [hy297]; exact H) | exact H
               have Ny297 := Aside0.mk hy297
               clear hy297
               have H' := Aside0.mk H
               clear H
               have p14 : 0 ≤ (x7_2 : Int) := of_decide_eq_true zb5
               have q14 : x7_2 < (a0.size : Int) := of_decide_eq_true zb5
               have hx14 := bt_at a0 x7_2
               replace p14 := eq_true p14
               replace q14 := eq_true q14
               have p35 : 0 ≤ ((ji32) : Int) := of_decide_eq_true zb5
               have q35 : (ji32) < (a0.size : Int) := of_decide_eq_true zb5
               have hx35 := bt_at a0 (ji32)
               replace p35 := eq_true p35
               replace q35 := eq_true q35
               go_wp2_with (first | ((with_reducible refine gate_builtin (b := .append) (xs := #[.tmp 80, .tmp 81]) rfl ?_); at_builtin; refine Kd.R_append (Kd.int .u8) (w0 := w) w.heap.size rfl (.tmp 80) (.tmp 81) 22 5 (.int .u8 0) 1 rfl Tryz.underlying22 info5 rfl zb33 zb40 u6 x6_2 10 [.int .u8 10] (fun _ => True) (fun _ => False) rfl rfl ?aP (fun _ hk => hk.elim) ?aF ?aO ?aB ?aS ?aL ?_; (case aP => exact rfl); (case aB => exact zb0); (case aF => exact (fun _ _ => trivial)); (case aO => exact (zR HO_6.out)); (case aS => exact (below_size zb0)); (case aL => have := LMc37.out; omega); intro v298 w38 ho hb hg hat; rw [← Ny297.out] at ho; replace HB := Aside0.mk hb; have HO299 := Aside0.mk ho; clear HO_6 ho hb hg hat))
               go_roundg k2
               case measure => have := HJ2.out; have := HK2.out; omega
               case rel => exact ⟨(y297), (wrap64 ((ji32) + 1)), zb48, H', ⟨by have := HJ2.out; have := HK2.out; omega⟩, ⟨(zR HO299.out)⟩, ⟨zb0⟩⟩
              ·rw [if_neg c37] at H
               exact absurd H zb26
             ·rw [if_neg c36] at H
              have c36b0 : ((bt a0 (ji32)) == 110) = false := beq_eq_false_iff_ne.mpr c36
              have c36b1 : ((bt a0 (ji32)) != 110) = true := bne_iff_ne.mpr c36
              by_cases c40 : (bt a0 (ji32)) = 120
              ·rw [if_pos c40] at H
               have c40b0 : ((bt a0 (ji32)) == 120) = true := beq_iff_eq.mpr c40
               have c40b1 : ((bt a0 (ji32)) != 120) = false := bne_eq_false_iff_eq.mpr c40
               clear c40
               by_cases c41 : (wrap64 (x7_2 + 4)) > (a0.size : Int)
               ·rw [if_pos c41] at H
                have c41b0 : decide ((a0.size : Int) < (wrap64 (x7_2 + 4))) = true := decide_eq_true c41
                clear c41
                simp only [Option.some.injEq, Prod.mk.injEq] at H
                obtain ⟨rfl, rfl⟩ := H
                have p14 : 0 ≤ (x7_2 : Int) := of_decide_eq_true zb5
                have q14 : x7_2 < (a0.size : Int) := of_decide_eq_true zb5
                have hx14 := bt_at a0 x7_2
                replace p14 := eq_true p14
                replace q14 := eq_true q14
                have p35 : 0 ≤ ((ji32) : Int) := of_decide_eq_true zb5
                have q35 : (ji32) < (a0.size : Int) := of_decide_eq_true zb5
                have hx35 := bt_at a0 (ji32)
                replace p35 := eq_true p35
                replace q35 := eq_true q35
                have p39 : 0 ≤ ((ji32) : Int) := of_decide_eq_true zb5
                have q39 : (ji32) < (a0.size : Int) := of_decide_eq_true zb5
                have hx39 := bt_at a0 (ji32)
                replace p39 := eq_true p39
                replace q39 := eq_true q39
                go_wp2
                go_ret2
                exact ⟨(by first | rfl | (simp [errW_none, errW_some] <;> rfl) | (simp only [← hji32]; first | rfl | (simp [errW_none, errW_some] <;> rfl)) | (simp [*, errW_none, errW_some] <;> rfl)), zb0⟩
               ·rw [if_neg c41] at H
                have c41b0 : decide ((a0.size : Int) < (wrap64 (x7_2 + 4))) = false := decide_eq_false c41
                clear c41
                obtain ⟨ji42, hji42⟩ : ∃ j_ : Int, (wrap64 (x7_2 + 2)) = j_ := ⟨_, rfl⟩
                replace H : (if 0 ≤ (ji42) then (if (ji42) ≤ (wrap64 (x7_2 + 4)) then (if (wrap64 (x7_2 + 4)) ≤ (a0.size : Int) then ((impl_GetHex.f k2 (a0.extract ((ji42) : Int).toNat ((wrap64 (x7_2 + 4)) : Int).toNat)).bind fun bt300 => (if bt300.2 = true then (if x6_2.length + bt300.1.size < 140737488355328 then (impl_Unquote.l0 k2 a0 a1 (x6_2 ++ bytesOf bt300.1) (wrap64 ((wrap64 (x7_2 + 3)) + 1))) else (none)) else (some ((⟨#[]⟩ : ByteArray), (-1))))) else (none)) else (none)) else (none)) = some (r1, r2) := by first | (rw [hji42] at H; exact H) | (simp only [hji42] at H ⊢; exact H)
                have hji42w : (IntKind.i64.wrap (x7_2 + 2)) = ji42 := (i64_w _).trans hji42
                by_cases c43 : 0 ≤ (ji42)
                ·rw [if_pos c43] at H
                 have c43b0 := eq_true c43
                 have c43b1 : decide (0 ≤ (ji42)) = true := decide_eq_true c43
                 clear c43
                 by_cases c44 : (ji42) ≤ (wrap64 (x7_2 + 4))
                 ·rw [if_pos c44] at H
                  have c44b0 := eq_true c44
                  have c44b1 : decide ((ji42) ≤ (wrap64 (x7_2 + 4))) = true := decide_eq_true c44
                  by_cases c45 : (wrap64 (x7_2 + 4)) ≤ (a0.size : Int)
                  ·rw [if_pos c45] at H
                   have c45b0 := eq_true c45
                   have c45b1 : decide ((wrap64 (x7_2 + 4)) ≤ (a0.size : Int)) = true := decide_eq_true c45
                   obtain ⟨js46, hjs46⟩ : ∃ j_ : ByteArray, (a0.extract ((ji42) : Int).toNat ((wrap64 (x7_2 + 4)) : Int).toNat) = j_ := ⟨_, rfl⟩
                   replace H : ((impl_GetHex.f k2 (js46)).bind fun bt300 => (if bt300.2 = true then (if x6_2.length + bt300.1.size < 140737488355328 then (impl_Unquote.l0 k2 a0 a1 (x6_2 ++ bytesOf bt300.1) (wrap64 ((wrap64 (x7_2 + 3)) + 1))) else (none)) else (some ((⟨#[]⟩ : ByteArray), (-1))))) = some (r1, r2) := by first | (rw [hjs46] at H; exact H) | (simp only [hjs46] at H ⊢; exact H)
                   replace H := Option.bind_eq_some_iff.mp H
                   obtain ⟨⟨t300, t301⟩, A470, H⟩ := H
                   try dsimp only at H
                   have A47 := Aside0.mk A470
                   clear A470
                   by_cases c48 : t301 = true
                   ·subst c48
                    rw [if_pos rfl] at H
                    by_cases c49 : x6_2.length + t300.size < 140737488355328
                    ·rw [if_pos c49] at H
                     have LMc49 := Aside0.mk c49
                     clear c49
                     obtain ⟨y302, hy302⟩ : ∃ y_ : List Int, y_ = (x6_2 ++ bytesOf t300) := ⟨_, rfl⟩
                     replace H : (impl_Unquote.l0 k2 a0 a1 y302 (wrap64 ((wrap64 (x7_2 + 3)) + 1))) = some (r1, r2) := by first | (rw [hy302]; with_reducible exact H) | (have H2_ := (Option.bind_some _ _).symm.trans H; rw [hy302]; with_reducible exact H2_) | (have H2_ := (Option.bind_some _ _).symm.trans H; with_reducible exact H2_) | with_reducible exact H | (rw [hy302]; exact H) | exact H
                     have Ny302 := Aside0.mk hy302
                     clear hy302
                     have H' := Aside0.mk H
                     clear H
                     have p14 : 0 ≤ (x7_2 : Int) := of_decide_eq_true zb5
                     have q14 : x7_2 < (a0.size : Int) := of_decide_eq_true zb5
                     have hx14 := bt_at a0 x7_2
                     replace p14 := eq_true p14
                     replace q14 := eq_true q14
                     have p35 : 0 ≤ ((ji32) : Int) := of_decide_eq_true zb5
                     have q35 : (ji32) < (a0.size : Int) := of_decide_eq_true zb5
                     have hx35 := bt_at a0 (ji32)
                     replace p35 := eq_true p35
                     replace q35 := eq_true q35
                     have p39 : 0 ≤ ((ji32) : Int) := of_decide_eq_true zb5
                     have q39 : (ji32) < (a0.size : Int) := of_decide_eq_true zb5
                     have hx39 := bt_at a0 (ji32)
                     replace p39 := eq_true p39
                     replace q39 := eq_true q39
                     go_wp2_with (first | ((with_reducible refine gate_callee (f := 77) rfl ?_); refine goesL_ (some 103) rfl rfl Tryz.func77 zb13 rfl #[.string js46] rfl zb2 ?_; (with_reducible refine (impl_GetHex.calls k2 js46 t300 true _ A47.out).mono ?_); rintro e w50 ⟨rfl, hb⟩; refine ⟨_, rfl, ?_⟩; replace HO_6 := Aside0.mk (Kd.R_below (zR HO_6.out) hb); replace HB := Aside0.mk (below_step zb0 hb); (try clear hb)) | (at_builtin; refine print_append_str (w0 := w) w.heap.size rfl (.tmp 108) _ 22 9 5 rfl Tryz.underlying22 Tryz.underlying9 info5 u6 x6_2 t300 rfl rfl ?aO ?aB ?aS ?aL ?_; (case aB => exact zb0); (case aO => exact (Kd.own_of_R (zR HO_6.out))); (case aS => exact (below_size zb0)); (case aL => have := LMc49.out; omega); intro v303 w51 ho0 hb hg; have ho := Kd.R_of_own (h1 := fun _ => rfl) (ok := fun _ => True) ho0 (fun _ _ => trivial); clear ho0; have hat := True.intro; rw [← Ny302.out] at ho; change Kd.R (Kd.int .u8) 5 w51 w.heap.size (fun _ => True) v303 y302 at ho; replace HB := Aside0.mk hb; have HO304 := Aside0.mk ho; clear HO_6 ho hb hg hat))
                     go_roundg k2
                     case measure => have := HJ2.out; have := HK2.out; omega
                     case rel => exact ⟨(y302), (wrap64 ((wrap64 (x7_2 + 3)) + 1)), zb7, H', ⟨by have := HJ2.out; have := HK2.out; omega⟩, ⟨(zR HO304.out)⟩, ⟨zb0⟩⟩
                    ·rw [if_neg c49] at H
                     exact absurd H zb26
                   ·replace c48 := Bool.eq_false_iff.mpr c48
                    subst c48
                    rw [if_neg (show ¬ (false = true) by decide)] at H
                    simp only [Option.some.injEq, Prod.mk.injEq] at H
                    obtain ⟨rfl, rfl⟩ := H
                    have p14 : 0 ≤ (x7_2 : Int) := of_decide_eq_true zb5
                    have q14 : x7_2 < (a0.size : Int) := of_decide_eq_true zb5
                    have hx14 := bt_at a0 x7_2
                    replace p14 := eq_true p14
                    replace q14 := eq_true q14
                    have p35 : 0 ≤ ((ji32) : Int) := of_decide_eq_true zb5
                    have q35 : (ji32) < (a0.size : Int) := of_decide_eq_true zb5
                    have hx35 := bt_at a0 (ji32)
                    replace p35 := eq_true p35
                    replace q35 := eq_true q35
                    have p39 : 0 ≤ ((ji32) : Int) := of_decide_eq_true zb5
                    have q39 : (ji32) < (a0.size : Int) := of_decide_eq_true zb5
                    have hx39 := bt_at a0 (ji32)
                    replace p39 := eq_true p39
                    replace q39 := eq_true q39
                    go_wp2_with (first | ((with_reducible refine gate_callee (f := 77) rfl ?_); refine goesL_ (some 103) rfl rfl Tryz.func77 zb13 rfl #[.string js46] rfl zb2 ?_; (with_reducible refine (impl_GetHex.calls k2 js46 t300 false _ A47.out).mono ?_); rintro e w52 ⟨rfl, hb⟩; refine ⟨_, rfl, ?_⟩; replace HO_6 := Aside0.mk (Kd.R_below (zR HO_6.out) hb); replace HB := Aside0.mk (below_step zb0 hb); (try clear hb)))
                    go_ret2
                    exact ⟨(by first | rfl | (simp [errW_none, errW_some] <;> rfl) | (simp only [← hji32, ← hji42, ← hjs46]; first | rfl | (simp [errW_none, errW_some] <;> rfl)) | (simp [*, errW_none, errW_some] <;> rfl)), zb0⟩
                  ·rw [if_neg c45] at H
                   exact absurd H zb26
                 ·rw [if_neg c44] at H
                  exact absurd H zb26
                ·rw [if_neg c43] at H
                 exact absurd H zb26
              ·rw [if_neg c40] at H
               have c40b0 : ((bt a0 (ji32)) == 120) = false := beq_eq_false_iff_ne.mpr c40
               have c40b1 : ((bt a0 (ji32)) != 120) = true := bne_iff_ne.mpr c40
               by_cases c54 : x6_2.length < 140737488355328
               ·rw [if_pos c54] at H
                have LMc54 := Aside0.mk c54
                clear c54
                obtain ⟨y305, hy305⟩ : ∃ y_ : List Int, y_ = (x6_2 ++ [bt a0 (ji32)]) := ⟨_, rfl⟩
                replace H : (impl_Unquote.l0 k2 a0 a1 y305 (wrap64 ((ji32) + 1))) = some (r1, r2) := by first | (rw [hy305]; with_reducible exact H) | (have H2_ := (Option.bind_some _ _).symm.trans H; rw [hy305]; with_reducible exact H2_) | (have H2_ := (Option.bind_some _ _).symm.trans H; with_reducible exact H2_) | with_reducible exact H | (rw [hy305]; exact H) | exact H
                have Ny305 := Aside0.mk hy305
                clear hy305
                have H' := Aside0.mk H
                clear H
                have p14 : 0 ≤ (x7_2 : Int) := of_decide_eq_true zb5
                have q14 : x7_2 < (a0.size : Int) := of_decide_eq_true zb5
                have hx14 := bt_at a0 x7_2
                replace p14 := eq_true p14
                replace q14 := eq_true q14
                have p35 : 0 ≤ ((ji32) : Int) := of_decide_eq_true zb5
                have q35 : (ji32) < (a0.size : Int) := of_decide_eq_true zb5
                have hx35 := bt_at a0 (ji32)
                replace p35 := eq_true p35
                replace q35 := eq_true q35
                have p39 : 0 ≤ ((ji32) : Int) := of_decide_eq_true zb5
                have q39 : (ji32) < (a0.size : Int) := of_decide_eq_true zb5
                have hx39 := bt_at a0 (ji32)
                replace p39 := eq_true p39
                replace q39 := eq_true q39
                have p53 : 0 ≤ ((ji32) : Int) := of_decide_eq_true zb5
                have q53 : (ji32) < (a0.size : Int) := of_decide_eq_true zb5
                have hx53 := bt_at a0 (ji32)
                replace p53 := eq_true p53
                replace q53 := eq_true q53
                go_wp2_with (first | ((with_reducible refine gate_builtin (b := .append) (xs := #[.tmp 36, .tmp 41]) rfl ?_); at_builtin; refine Kd.R_append (Kd.int .u8) (w0 := w) w.heap.size rfl (.tmp 36) (.tmp 41) 22 5 (.int .u8 0) 1 rfl Tryz.underlying22 info5 rfl zb33 zb40 u6 x6_2 (bt a0 (ji32)) [.int .u8 (bt a0 (ji32))] (fun _ => True) (fun _ => False) rfl rfl ?aP (fun _ hk => hk.elim) ?aF ?aO ?aB ?aS ?aL ?_; (case aP => exact rfl); (case aB => exact zb0); (case aF => exact (fun _ _ => trivial)); (case aO => exact (zR HO_6.out)); (case aS => exact (below_size zb0)); (case aL => have := LMc54.out; omega); intro v306 w55 ho hb hg hat; rw [← Ny305.out] at ho; replace HB := Aside0.mk hb; have HO307 := Aside0.mk ho; clear HO_6 ho hb hg hat))
                go_roundg k2
                case measure => have := HJ2.out; have := HK2.out; omega
                case rel => exact ⟨(y305), (wrap64 ((ji32) + 1)), zb48, H', ⟨by have := HJ2.out; have := HK2.out; omega⟩, ⟨(zR HO307.out)⟩, ⟨zb0⟩⟩
               ·rw [if_neg c54] at H
                exact absurd H zb26
            ·rw [if_neg c34] at H
             exact absurd H zb26
           ·rw [if_neg c33] at H
            exact absurd H zb26
         ·rw [if_neg c30] at H
          have c30b0 : ((bt a0 x7_2) == 92) = false := beq_eq_false_iff_ne.mpr c30
          have c30b1 : ((bt a0 x7_2) != 92) = true := bne_iff_ne.mpr c30
          by_cases c56 : x6_2.length < 140737488355328
          ·rw [if_pos c56] at H
           have LMc56 := Aside0.mk c56
           clear c56
           obtain ⟨y308, hy308⟩ : ∃ y_ : List Int, y_ = (x6_2 ++ [bt a0 x7_2]) := ⟨_, rfl⟩
           replace H : (impl_Unquote.l0 k2 a0 a1 y308 (wrap64 (x7_2 + 1))) = some (r1, r2) := by first | (rw [hy308]; with_reducible exact H) | (have H2_ := (Option.bind_some _ _).symm.trans H; rw [hy308]; with_reducible exact H2_) | (have H2_ := (Option.bind_some _ _).symm.trans H; with_reducible exact H2_) | with_reducible exact H | (rw [hy308]; exact H) | exact H
           have Ny308 := Aside0.mk hy308
           clear hy308
           have H' := Aside0.mk H
           clear H
           have p14 : 0 ≤ (x7_2 : Int) := of_decide_eq_true zb5
           have q14 : x7_2 < (a0.size : Int) := of_decide_eq_true zb5
           have hx14 := bt_at a0 x7_2
           replace p14 := eq_true p14
           replace q14 := eq_true q14
           go_wp2_with (first | ((with_reducible refine gate_builtin (b := .append) (xs := #[.tmp 64, .tmp 66]) rfl ?_); at_builtin; refine Kd.R_append (Kd.int .u8) (w0 := w) w.heap.size rfl (.tmp 64) (.tmp 66) 22 5 (.int .u8 0) 1 rfl Tryz.underlying22 info5 rfl zb33 zb40 u6 x6_2 (bt a0 x7_2) [.int .u8 (bt a0 x7_2)] (fun _ => True) (fun _ => False) rfl rfl ?aP (fun _ hk => hk.elim) ?aF ?aO ?aB ?aS ?aL ?_; (case aP => exact rfl); (case aB => exact zb0); (case aF => exact (fun _ _ => trivial)); (case aO => exact (zR HO_6.out)); (case aS => exact (below_size zb0)); (case aL => have := LMc56.out; omega); intro v309 w57 ho hb hg hat; rw [← Ny308.out] at ho; replace HB := Aside0.mk hb; have HO310 := Aside0.mk ho; clear HO_6 ho hb hg hat))
           go_roundg k2
           case measure => have := HJ2.out; have := HK2.out; omega
           case rel => exact ⟨(y308), (wrap64 (x7_2 + 1)), zb7, H', ⟨by have := HJ2.out; have := HK2.out; omega⟩, ⟨(zR HO310.out)⟩, ⟨zb0⟩⟩
          ·rw [if_neg c56] at H
           exact absurd H zb26
       ·rw [if_neg c13] at H
        exact absurd H zb26
      ·rw [if_neg c12] at H
       have c12b0 : decide (x7_2 < (a0.size : Int)) = false := decide_eq_false c12
       clear c12
       simp only [Option.some.injEq, Prod.mk.injEq] at H
       obtain ⟨rfl, rfl⟩ := H
       go_wp2
       go_ret2
       exact ⟨zb8, zb0⟩
set_option maxHeartbeats 8000000 in
set_option maxRecDepth 100000 in
theorem spec_l01At.calls (k : Nat) (a0 : ByteArray) (a1 : Int) (r : Int) (w : World) (h : spec_l01At.f k a0 a1 = some r) :
  Calls Tryz.prog 117 #[.string a0, .int .u8 a1] w fun e w' => e = .returned (.int .i64 r) ∧ Drawn0 w w' := by
 have H : (spec_l01At.l0 k a0 a1 0) = some r := h
 clear h
 have H' := Aside0.mk H
 clear H
 go_enter Tryz.func117, Tryz.ntmps117
 go_wp2
 go_loopg [5] k (fun kq v5 w' => ∃ (x5_1 : Int), v5 = .int .i64 x5_1 ∧ Aside0 (spec_l01At.l0 kq a0 a1 x5_1 = some r) ∧ Aside0 (kq ≤ k) ∧ Drawn0 w w')
 case atStart => exact ⟨(0), zb7, H', ⟨Nat.le_refl _⟩, zb35⟩
 case round =>
  clear H'
  try clear c1
  try clear p2
  obtain ⟨x5_1, rfl, HA, HK1, ⟨m1, rfl⟩⟩ := hrel
  cases gk with
  | zero => exact absurd HA.out (by simp [spec_l01At.l0])
  | succ k1 =>
   have H := HA.out
   clear HA
   simp only [spec_l01At.l0] at H
   by_cases c3 : x5_1 < (a0.size : Int)
   ·rw [if_pos c3] at H
    have c3b0 : decide (x5_1 < (a0.size : Int)) = true := decide_eq_true c3
    clear c3
    by_cases c4 : 0 ≤ x5_1
    ·rw [if_pos c4] at H
     have c4b0 : decide (0 ≤ x5_1) = true := decide_eq_true c4
     clear c4
     by_cases c6 : (bt a0 x5_1) = a1
     ·rw [if_pos c6] at H
      have c6b0 : ((bt a0 x5_1) == a1) = true := beq_iff_eq.mpr c6
      have c6b1 : ((bt a0 x5_1) != a1) = false := bne_eq_false_iff_eq.mpr c6
      clear c6
      obtain rfl := Option.some.inj H
      have p5 : 0 ≤ (x5_1 : Int) := of_decide_eq_true zb5
      have q5 : x5_1 < (a0.size : Int) := of_decide_eq_true zb5
      have hx5 := bt_at a0 x5_1
      replace p5 := eq_true p5
      replace q5 := eq_true q5
      go_wp2
      go_ret
      exact ⟨zb7, zb35⟩
     ·rw [if_neg c6] at H
      have c6b0 : ((bt a0 x5_1) == a1) = false := beq_eq_false_iff_ne.mpr c6
      have c6b1 : ((bt a0 x5_1) != a1) = true := bne_iff_ne.mpr c6
      have H' := Aside0.mk H
      clear H
      have p5 : 0 ≤ (x5_1 : Int) := of_decide_eq_true zb5
      have q5 : x5_1 < (a0.size : Int) := of_decide_eq_true zb5
      have hx5 := bt_at a0 x5_1
      replace p5 := eq_true p5
      replace q5 := eq_true q5
      go_wp2
      go_roundg k1
      case measure => have := HK1.out; omega
      case rel => exact ⟨(wrap64 (x5_1 + 1)), zb7, H', ⟨by have := HK1.out; omega⟩, zb35⟩
    ·rw [if_neg c4] at H
     exact absurd H zb26
   ·rw [if_neg c3] at H
    have c3b0 : decide (x5_1 < (a0.size : Int)) = false := decide_eq_false c3
    clear c3
    obtain rfl := Option.some.inj H
    go_wp2
    go_ret
    exact ⟨zb7, zb35⟩
set_option maxHeartbeats 8000000 in
set_option maxRecDepth 100000 in
theorem spec_l01Pairs.calls (k : Nat) (a0 : ByteArray) (a1 : ByteArray) (r1 : ByteArray) (r2 : Bool) (w : World) (h : spec_l01Pairs.f k a0 a1 = some (r1, r2)) :
  Calls Tryz.prog 149 #[.string a0, .string a1] w fun e w' => e = .returned (.tuple #[.string r1, .bool r2]) ∧ Below w.heap.size w w' := by
 have HB := Aside0.mk (Below.refl w.heap.size w)
 have H : (spec_l01Pairs.l0 k a0 a1 (([] : List Int)) 0) = some (r1, r2) := h
 clear h
 obtain ⟨y311, hy311⟩ : ∃ y_ : List Int, y_ = (([] : List Int)) := ⟨_, rfl⟩
 replace H : (spec_l01Pairs.l0 k a0 a1 y311 0) = some (r1, r2) := by first | (rw [hy311]; with_reducible exact H) | (have H2_ := (Option.bind_some _ _).symm.trans H; rw [hy311]; with_reducible exact H2_) | (have H2_ := (Option.bind_some _ _).symm.trans H; with_reducible exact H2_) | with_reducible exact H | (rw [hy311]; exact H) | exact H
 have Ny311 := Aside0.mk hy311
 clear hy311
 have H' := Aside0.mk H
 clear H
 go_enter Tryz.func149, Tryz.ntmps149
 go_wp2_with (first | ((with_reducible refine gate_dst (N := 10) rfl ?_); refine Kd.R_lit (Kd.int .u8) _ 5 ?hg (N := 10) ?hd (xs := ([] : List Int)) (inner := []) (ok := fun _ => True) (okp := fun _ => True) ?hr ?hp (fun _ hk => hk) trivial (Below.refl _ _) (Nat.le_refl _) zb26 ?_; (case hd => rfl); (case hg => rfl); (case hr => exact zb15); (case hp => exact (Reps.none _ _)); intro v312 w3 ho4 hb hg_ hnew_; clear hg_ hnew_; (first | rw [← Ny311.out] at ho4 | (simp only [Int.reduceToNat] at ho4; rw [← Ny311.out] at ho4)); have HO313 := Aside0.mk (Kd.R_lower ho4 (below_size zb0)); replace HB := Aside0.mk (below_step zb0 hb); clear hb ho4))
 repeat (go_quiet (first | ((with_reducible refine gate_dst (N := 10) rfl ?_); refine Kd.R_lit (Kd.int .u8) _ 5 ?hg (N := 10) ?hd (xs := ([] : List Int)) (inner := []) (ok := fun _ => True) (okp := fun _ => True) ?hr ?hp (fun _ hk => hk) trivial (Below.refl _ _) (Nat.le_refl _) zb26 ?_; (case hd => rfl); (case hg => rfl); (case hr => exact zb15); (case hp => exact (Reps.none _ _)); intro v312 w3 ho4 hb hg_ hnew_; clear hg_ hnew_; (first | rw [← Ny311.out] at ho4 | (simp only [Int.reduceToNat] at ho4; rw [← Ny311.out] at ho4)); have HO313 := Aside0.mk (Kd.R_lower ho4 (below_size zb0)); replace HB := Aside0.mk (below_step zb0 hb); clear hb ho4)); try go_wp2_with (first | ((with_reducible refine gate_dst (N := 10) rfl ?_); refine Kd.R_lit (Kd.int .u8) _ 5 ?hg (N := 10) ?hd (xs := ([] : List Int)) (inner := []) (ok := fun _ => True) (okp := fun _ => True) ?hr ?hp (fun _ hk => hk) trivial (Below.refl _ _) (Nat.le_refl _) zb26 ?_; (case hd => rfl); (case hg => rfl); (case hr => exact zb15); (case hp => exact (Reps.none _ _)); intro v312 w3 ho4 hb hg_ hnew_; clear hg_ hnew_; (first | rw [← Ny311.out] at ho4 | (simp only [Int.reduceToNat] at ho4; rw [← Ny311.out] at ho4)); have HO313 := Aside0.mk (Kd.R_lower ho4 (below_size zb0)); replace HB := Aside0.mk (below_step zb0 hb); clear hb ho4)))
 go_loopg [6, 7] k (fun kq v6 v7 w' => ∃ (x6_1 : List Int) (x7_1 : Int), v7 = .int .i64 x7_1 ∧ Aside0 (spec_l01Pairs.l0 kq a0 a1 x6_1 x7_1 = some (r1, r2)) ∧ Aside0 (kq ≤ k) ∧ Aside0 (Kd.R (Kd.int .u8) 5 w' w.heap.size (fun _ => True) v6 x6_1) ∧ Aside0 (Below w.heap.size w w'))
 case atStart => exact ⟨(y311), (0), zb7, H', ⟨Nat.le_refl _⟩, ⟨(zR HO313.out)⟩, ⟨zb0⟩⟩
 case round =>
  clear H'
  try clear c1
  try clear p2
  obtain ⟨x6_1, x7_1, rfl, HA, HK1, HO_6, HB⟩ := hrel
  cases gk with
  | zero => exact absurd HA.out (by simp [spec_l01Pairs.l0])
  | succ k1 =>
   have H := HA.out
   clear HA
   simp only [spec_l01Pairs.l0] at H
   by_cases c5 : (wrap64 (x7_1 + 1)) < (a0.size : Int)
   ·rw [if_pos c5] at H
    have c5b0 : decide ((wrap64 (x7_1 + 1)) < (a0.size : Int)) = true := decide_eq_true c5
    clear c5
    by_cases c6 : 0 ≤ x7_1
    ·rw [if_pos c6] at H
     have c6b0 : decide (0 ≤ x7_1) = true := decide_eq_true c6
     clear c6
     by_cases c7 : x7_1 < (a0.size : Int)
     ·rw [if_pos c7] at H
      have c7b0 : decide (x7_1 < (a0.size : Int)) = true := decide_eq_true c7
      clear c7
      replace H := Option.bind_eq_some_iff.mp H
      obtain ⟨t314, A90, H⟩ := H
      try dsimp only at H
      have A9 := Aside0.mk A90
      clear A90
      obtain ⟨ji10, hji10⟩ : ∃ j_ : Int, (wrap64 (x7_1 + 1)) = j_ := ⟨_, rfl⟩
      replace H : (if 0 ≤ (ji10) then ((spec_l01At.f k1 a1 (bt a0 (ji10))).bind fun t315 => (if t314 < 0 then (some ((⟨#[]⟩ : ByteArray), false)) else (if t315 < 0 then (some ((⟨#[]⟩ : ByteArray), false)) else (if x6_1.length < 140737488355328 then (spec_l01Pairs.l0 k1 a0 a1 (x6_1 ++ [(wrap64 ((wrap64 (16 * t314)) + t315)) % 256]) (wrap64 (x7_1 + 2))) else (none))))) else (none)) = some (r1, r2) := by first | (rw [hji10] at H; exact H) | (simp only [hji10] at H ⊢; exact H)
      (try rw [hji10] at c5b0)
      (try rw [hji10] at A9)
      have hji10w : (IntKind.i64.wrap (x7_1 + 1)) = ji10 := (i64_w _).trans hji10
      by_cases c11 : 0 ≤ (ji10)
      ·rw [if_pos c11] at H
       have c11b0 : decide (0 ≤ (ji10)) = true := decide_eq_true c11
       clear c11
       replace H := Option.bind_eq_some_iff.mp H
       obtain ⟨t315, A130, H⟩ := H
       try dsimp only at H
       have A13 := Aside0.mk A130
       clear A130
       by_cases c14 : t314 < 0
       ·rw [if_pos c14] at H
        have c14b0 : decide (t314 < 0) = true := decide_eq_true c14
        clear c14
        simp only [Option.some.injEq, Prod.mk.injEq] at H
        obtain ⟨rfl, rfl⟩ := H
        have p8 : 0 ≤ (x7_1 : Int) := of_decide_eq_true zb5
        have q8 : x7_1 < (a0.size : Int) := of_decide_eq_true zb5
        have hx8 := bt_at a0 x7_1
        replace p8 := eq_true p8
        replace q8 := eq_true q8
        go_wp2_with (first | (go_at_call 117; (with_reducible refine (spec_l01At.calls k1 a1 (bt a0 x7_1) t314 _ A9.out).mono ?_); rintro e w' ⟨rfl, ⟨nd, rfl⟩⟩; (try exact zb6); have p12 : 0 ≤ ((ji10) : Int) := of_decide_eq_true zb5; have q12 : (ji10) < (a0.size : Int) := of_decide_eq_true zb5; have hx12 := bt_at a0 (ji10); replace p12 := eq_true p12; replace q12 := eq_true q12) | (go_at_call 117; (with_reducible refine (spec_l01At.calls k1 a1 (bt a0 (ji10)) t315 _ A13.out).mono ?_); rintro e w' ⟨rfl, ⟨nd, rfl⟩⟩; (try exact zb6)))
        repeat (go_quiet (first | (go_at_call 117; (with_reducible refine (spec_l01At.calls k1 a1 (bt a0 x7_1) t314 _ A9.out).mono ?_); rintro e w' ⟨rfl, ⟨nd, rfl⟩⟩; (try exact zb6); have p12 : 0 ≤ ((ji10) : Int) := of_decide_eq_true zb5; have q12 : (ji10) < (a0.size : Int) := of_decide_eq_true zb5; have hx12 := bt_at a0 (ji10); replace p12 := eq_true p12; replace q12 := eq_true q12) | (go_at_call 117; (with_reducible refine (spec_l01At.calls k1 a1 (bt a0 (ji10)) t315 _ A13.out).mono ?_); rintro e w' ⟨rfl, ⟨nd, rfl⟩⟩; (try exact zb6))); try go_wp2_with (first | (go_at_call 117; (with_reducible refine (spec_l01At.calls k1 a1 (bt a0 x7_1) t314 _ A9.out).mono ?_); rintro e w' ⟨rfl, ⟨nd, rfl⟩⟩; (try exact zb6); have p12 : 0 ≤ ((ji10) : Int) := of_decide_eq_true zb5; have q12 : (ji10) < (a0.size : Int) := of_decide_eq_true zb5; have hx12 := bt_at a0 (ji10); replace p12 := eq_true p12; replace q12 := eq_true q12) | (go_at_call 117; (with_reducible refine (spec_l01At.calls k1 a1 (bt a0 (ji10)) t315 _ A13.out).mono ?_); rintro e w' ⟨rfl, ⟨nd, rfl⟩⟩; (try exact zb6))))
        go_ret2
        exact ⟨zb44, zb0⟩
       ·rw [if_neg c14] at H
        have c14b0 : decide (t314 < 0) = false := decide_eq_false c14
        clear c14
        by_cases c15 : t315 < 0
        ·rw [if_pos c15] at H
         have c15b0 : decide (t315 < 0) = true := decide_eq_true c15
         clear c15
         simp only [Option.some.injEq, Prod.mk.injEq] at H
         obtain ⟨rfl, rfl⟩ := H
         have p8 : 0 ≤ (x7_1 : Int) := of_decide_eq_true zb5
         have q8 : x7_1 < (a0.size : Int) := of_decide_eq_true zb5
         have hx8 := bt_at a0 x7_1
         replace p8 := eq_true p8
         replace q8 := eq_true q8
         go_wp2_with (first | (go_at_call 117; (with_reducible refine (spec_l01At.calls k1 a1 (bt a0 x7_1) t314 _ A9.out).mono ?_); rintro e w' ⟨rfl, ⟨nd, rfl⟩⟩; (try exact zb6); have p12 : 0 ≤ ((ji10) : Int) := of_decide_eq_true zb5; have q12 : (ji10) < (a0.size : Int) := of_decide_eq_true zb5; have hx12 := bt_at a0 (ji10); replace p12 := eq_true p12; replace q12 := eq_true q12) | (go_at_call 117; (with_reducible refine (spec_l01At.calls k1 a1 (bt a0 (ji10)) t315 _ A13.out).mono ?_); rintro e w' ⟨rfl, ⟨nd, rfl⟩⟩; (try exact zb6)))
         repeat (go_quiet (first | (go_at_call 117; (with_reducible refine (spec_l01At.calls k1 a1 (bt a0 x7_1) t314 _ A9.out).mono ?_); rintro e w' ⟨rfl, ⟨nd, rfl⟩⟩; (try exact zb6); have p12 : 0 ≤ ((ji10) : Int) := of_decide_eq_true zb5; have q12 : (ji10) < (a0.size : Int) := of_decide_eq_true zb5; have hx12 := bt_at a0 (ji10); replace p12 := eq_true p12; replace q12 := eq_true q12) | (go_at_call 117; (with_reducible refine (spec_l01At.calls k1 a1 (bt a0 (ji10)) t315 _ A13.out).mono ?_); rintro e w' ⟨rfl, ⟨nd, rfl⟩⟩; (try exact zb6))); try go_wp2_with (first | (go_at_call 117; (with_reducible refine (spec_l01At.calls k1 a1 (bt a0 x7_1) t314 _ A9.out).mono ?_); rintro e w' ⟨rfl, ⟨nd, rfl⟩⟩; (try exact zb6); have p12 : 0 ≤ ((ji10) : Int) := of_decide_eq_true zb5; have q12 : (ji10) < (a0.size : Int) := of_decide_eq_true zb5; have hx12 := bt_at a0 (ji10); replace p12 := eq_true p12; replace q12 := eq_true q12) | (go_at_call 117; (with_reducible refine (spec_l01At.calls k1 a1 (bt a0 (ji10)) t315 _ A13.out).mono ?_); rintro e w' ⟨rfl, ⟨nd, rfl⟩⟩; (try exact zb6))))
         go_ret2
         exact ⟨zb44, zb0⟩
        ·rw [if_neg c15] at H
         have c15b0 : decide (t315 < 0) = false := decide_eq_false c15
         clear c15
         by_cases c16 : x6_1.length < 140737488355328
         ·rw [if_pos c16] at H
          have LMc16 := Aside0.mk c16
          clear c16
          obtain ⟨y316, hy316⟩ : ∃ y_ : List Int, y_ = (x6_1 ++ [(wrap64 ((wrap64 (16 * t314)) + t315)) % 256]) := ⟨_, rfl⟩
          replace H : (spec_l01Pairs.l0 k1 a0 a1 y316 (wrap64 (x7_1 + 2))) = some (r1, r2) := by first | (rw [hy316]; with_reducible exact H) | (have H2_ := (Option.bind_some _ _).symm.trans H; rw [hy316]; with_reducible exact H2_) | (have H2_ := (Option.bind_some _ _).symm.trans H; with_reducible exact H2_) | with_reducible exact H | (rw [hy316]; exact H) | exact H
          have Ny316 := Aside0.mk hy316
          clear hy316
          have H' := Aside0.mk H
          clear H
          have p8 : 0 ≤ (x7_1 : Int) := of_decide_eq_true zb5
          have q8 : x7_1 < (a0.size : Int) := of_decide_eq_true zb5
          have hx8 := bt_at a0 x7_1
          replace p8 := eq_true p8
          replace q8 := eq_true q8
          go_wp2_with (first | (go_at_call 117; (with_reducible refine (spec_l01At.calls k1 a1 (bt a0 x7_1) t314 _ A9.out).mono ?_); rintro e w' ⟨rfl, ⟨nd, rfl⟩⟩; (try exact zb6); have p12 : 0 ≤ ((ji10) : Int) := of_decide_eq_true zb5; have q12 : (ji10) < (a0.size : Int) := of_decide_eq_true zb5; have hx12 := bt_at a0 (ji10); replace p12 := eq_true p12; replace q12 := eq_true q12) | (go_at_call 117; (with_reducible refine (spec_l01At.calls k1 a1 (bt a0 (ji10)) t315 _ A13.out).mono ?_); rintro e w' ⟨rfl, ⟨nd, rfl⟩⟩; (try exact zb6)) | ((with_reducible refine gate_builtin (b := .append) (xs := #[.tmp 35, .tmp 41]) rfl ?_); at_builtin; refine Kd.R_append (Kd.int .u8) (w0 := w) w.heap.size rfl (.tmp 35) (.tmp 41) 22 5 (.int .u8 0) 1 rfl Tryz.underlying22 info5 rfl zb33 zb40 u6 x6_1 ((wrap64 ((wrap64 (16 * t314)) + t315)) % 256) [.int .u8 ((wrap64 ((wrap64 (16 * t314)) + t315)) % 256)] (fun _ => True) (fun _ => False) rfl rfl ?aP (fun _ hk => hk.elim) ?aF ?aO ?aB ?aS ?aL ?_; (case aP => exact rfl); (case aB => exact zb0); (case aF => exact (fun _ _ => trivial)); (case aO => exact (zR HO_6.out)); (case aS => exact (below_size zb0)); (case aL => exact zb47); intro v317 w17 ho hb hg hat; rw [← Ny316.out] at ho; replace HB := Aside0.mk hb; have HO318 := Aside0.mk ho; clear HO_6 ho hb hg hat))
          repeat (go_quiet (first | (go_at_call 117; (with_reducible refine (spec_l01At.calls k1 a1 (bt a0 x7_1) t314 _ A9.out).mono ?_); rintro e w' ⟨rfl, ⟨nd, rfl⟩⟩; (try exact zb6); have p12 : 0 ≤ ((ji10) : Int) := of_decide_eq_true zb5; have q12 : (ji10) < (a0.size : Int) := of_decide_eq_true zb5; have hx12 := bt_at a0 (ji10); replace p12 := eq_true p12; replace q12 := eq_true q12) | (go_at_call 117; (with_reducible refine (spec_l01At.calls k1 a1 (bt a0 (ji10)) t315 _ A13.out).mono ?_); rintro e w' ⟨rfl, ⟨nd, rfl⟩⟩; (try exact zb6)) | ((with_reducible refine gate_builtin (b := .append) (xs := #[.tmp 35, .tmp 41]) rfl ?_); at_builtin; refine Kd.R_append (Kd.int .u8) (w0 := w) w.heap.size rfl (.tmp 35) (.tmp 41) 22 5 (.int .u8 0) 1 rfl Tryz.underlying22 info5 rfl zb33 zb40 u6 x6_1 ((wrap64 ((wrap64 (16 * t314)) + t315)) % 256) [.int .u8 ((wrap64 ((wrap64 (16 * t314)) + t315)) % 256)] (fun _ => True) (fun _ => False) rfl rfl ?aP (fun _ hk => hk.elim) ?aF ?aO ?aB ?aS ?aL ?_; (case aP => exact rfl); (case aB => exact zb0); (case aF => exact (fun _ _ => trivial)); (case aO => exact (zR HO_6.out)); (case aS => exact (below_size zb0)); (case aL => exact zb47); intro v317 w17 ho hb hg hat; rw [← Ny316.out] at ho; replace HB := Aside0.mk hb; have HO318 := Aside0.mk ho; clear HO_6 ho hb hg hat)); try go_wp2_with (first | (go_at_call 117; (with_reducible refine (spec_l01At.calls k1 a1 (bt a0 x7_1) t314 _ A9.out).mono ?_); rintro e w' ⟨rfl, ⟨nd, rfl⟩⟩; (try exact zb6); have p12 : 0 ≤ ((ji10) : Int) := of_decide_eq_true zb5; have q12 : (ji10) < (a0.size : Int) := of_decide_eq_true zb5; have hx12 := bt_at a0 (ji10); replace p12 := eq_true p12; replace q12 := eq_true q12) | (go_at_call 117; (with_reducible refine (spec_l01At.calls k1 a1 (bt a0 (ji10)) t315 _ A13.out).mono ?_); rintro e w' ⟨rfl, ⟨nd, rfl⟩⟩; (try exact zb6)) | ((with_reducible refine gate_builtin (b := .append) (xs := #[.tmp 35, .tmp 41]) rfl ?_); at_builtin; refine Kd.R_append (Kd.int .u8) (w0 := w) w.heap.size rfl (.tmp 35) (.tmp 41) 22 5 (.int .u8 0) 1 rfl Tryz.underlying22 info5 rfl zb33 zb40 u6 x6_1 ((wrap64 ((wrap64 (16 * t314)) + t315)) % 256) [.int .u8 ((wrap64 ((wrap64 (16 * t314)) + t315)) % 256)] (fun _ => True) (fun _ => False) rfl rfl ?aP (fun _ hk => hk.elim) ?aF ?aO ?aB ?aS ?aL ?_; (case aP => exact rfl); (case aB => exact zb0); (case aF => exact (fun _ _ => trivial)); (case aO => exact (zR HO_6.out)); (case aS => exact (below_size zb0)); (case aL => exact zb47); intro v317 w17 ho hb hg hat; rw [← Ny316.out] at ho; replace HB := Aside0.mk hb; have HO318 := Aside0.mk ho; clear HO_6 ho hb hg hat)))
          go_roundg k1
          case measure => have := HK1.out; omega
          case rel => exact ⟨(y316), (wrap64 (x7_1 + 2)), zb7, H', ⟨by have := HK1.out; omega⟩, ⟨(zR HO318.out)⟩, ⟨zb0⟩⟩
         ·rw [if_neg c16] at H
          exact absurd H zb26
      ·rw [if_neg c11] at H
       exact absurd H zb26
     ·rw [if_neg c7] at H
      exact absurd H zb26
    ·rw [if_neg c6] at H
     exact absurd H zb26
   ·rw [if_neg c5] at H
    have c5b0 : decide ((wrap64 (x7_1 + 1)) < (a0.size : Int)) = false := decide_eq_false c5
    clear c5
    simp only [Option.some.injEq, Prod.mk.injEq] at H
    obtain ⟨rfl, rfl⟩ := H
    have hcv18 := own_string (P := Tryz.prog) Tryz.underlying22 Tryz.underlying5 Tryz.underlying9 (Kd.own_of_R HO_6.out)
    have hcvd19 := fun n_ : Nat => own_string (P := Tryz.prog) Tryz.underlying22 Tryz.underlying5 Tryz.underlying9 (Kd.own_of_R (Kd.R_drewN HO_6.out n_))
    go_wp2
    repeat (go_quiet (fail); try go_wp2)
    go_ret2
    exact ⟨zb8, zb0⟩
set_option maxHeartbeats 8000000 in
set_option maxRecDepth 100000 in
theorem spec_GetHex.calls (k : Nat) (a0 : ByteArray) (r1 : ByteArray) (r2 : Bool) (w : World) (h : spec_GetHex.f k a0 = some (r1, r2)) :
  Calls Tryz.prog 121 #[.string a0] w fun e w' => e = .returned (.tuple #[.string r1, .bool r2]) ∧ Below w.heap.size w w' := by
 have HB := Aside0.mk (Below.refl w.heap.size w)
 have H : ((spec_l01Pairs.f k a0 (⟨#[48, 49, 50, 51, 52, 53, 54, 55, 56, 57, 97, 98, 99, 100, 101, 102]⟩ : ByteArray)).bind fun bt319 => (if bt319.2 = true then (some (bt319.1, true)) else (some ((⟨#[]⟩ : ByteArray), false)))) = some (r1, r2) := h
 clear h
 replace H := Option.bind_eq_some_iff.mp H
 obtain ⟨⟨t319, t320⟩, A20, H⟩ := H
 try dsimp only at H
 have A2 := Aside0.mk A20
 clear A20
 by_cases c3 : t320 = true
 ·subst c3
  rw [if_pos rfl] at H
  simp only [Option.some.injEq, Prod.mk.injEq] at H
  obtain ⟨rfl, rfl⟩ := H
  go_enter Tryz.func121, Tryz.ntmps121
  go_wp2_with (first | ((with_reducible refine gate_callee (f := 149) rfl ?_); refine goesL_ (some 8) rfl rfl Tryz.func149 zb13 rfl #[.string a0, .string (⟨#[48, 49, 50, 51, 52, 53, 54, 55, 56, 57, 97, 98, 99, 100, 101, 102]⟩ : ByteArray)] rfl zb2 ?_; (with_reducible refine (spec_l01Pairs.calls k a0 (⟨#[48, 49, 50, 51, 52, 53, 54, 55, 56, 57, 97, 98, 99, 100, 101, 102]⟩ : ByteArray) t319 true _ A2.out).mono ?_); rintro e w4 ⟨rfl, hb⟩; refine ⟨_, rfl, ?_⟩; replace HB := Aside0.mk (below_step zb0 hb); (try clear hb)))
  go_ret2
  exact ⟨zb8, zb0⟩
 ·replace c3 := Bool.eq_false_iff.mpr c3
  subst c3
  rw [if_neg (show ¬ (false = true) by decide)] at H
  simp only [Option.some.injEq, Prod.mk.injEq] at H
  obtain ⟨rfl, rfl⟩ := H
  go_enter Tryz.func121, Tryz.ntmps121
  go_wp2_with (first | ((with_reducible refine gate_callee (f := 149) rfl ?_); refine goesL_ (some 8) rfl rfl Tryz.func149 zb13 rfl #[.string a0, .string (⟨#[48, 49, 50, 51, 52, 53, 54, 55, 56, 57, 97, 98, 99, 100, 101, 102]⟩ : ByteArray)] rfl zb2 ?_; (with_reducible refine (spec_l01Pairs.calls k a0 (⟨#[48, 49, 50, 51, 52, 53, 54, 55, 56, 57, 97, 98, 99, 100, 101, 102]⟩ : ByteArray) t319 false _ A2.out).mono ?_); rintro e w5 ⟨rfl, hb⟩; refine ⟨_, rfl, ?_⟩; replace HB := Aside0.mk (below_step zb0 hb); (try clear hb)))
  go_ret2
  exact ⟨zb8, zb0⟩
set_option maxHeartbeats 8000000 in
set_option maxRecDepth 100000 in
theorem spec_l01Escape.calls (k : Nat) (a0 : ByteArray) (a1 : Int) (r1 : ByteArray) (r2 : Int) (w : World) (h : spec_l01Escape.f k a0 a1 = some (r1, r2)) :
  Calls Tryz.prog 78 #[.string a0, .int .i64 a1] w fun e w' => e = .returned (.tuple #[.string r1, .int .i64 r2]) ∧ Below w.heap.size w w' := by
 have HB := Aside0.mk (Below.refl w.heap.size w)
 have H : (if a1 ≥ (a0.size : Int) then (some ((⟨#[]⟩ : ByteArray), (-1))) else (if 0 ≤ a1 then (if a1 < (a0.size : Int) then (if (bt a0 a1) = 110 then (some ((⟨#[10]⟩ : ByteArray), wrap64 (a1 + 1))) else (if (bt a0 a1) = 120 then (spec_l01Escape.j0 k a0 a1 (decide ((wrap64 (a1 + 3)) ≤ (a0.size : Int)))) else (spec_l01Escape.j0 k a0 a1 false))) else (none)) else (none))) = some (r1, r2) := h
 clear h
 by_cases c3 : a1 ≥ (a0.size : Int)
 ·rw [if_pos c3] at H
  have c3b0 : decide ((a0.size : Int) ≤ a1) = true := decide_eq_true c3
  clear c3
  simp only [Option.some.injEq, Prod.mk.injEq] at H
  obtain ⟨rfl, rfl⟩ := H
  go_enter Tryz.func78, Tryz.ntmps78
  go_wp2
  go_ret2
  exact ⟨zb8, zb0⟩
 ·rw [if_neg c3] at H
  have c3b0 : decide ((a0.size : Int) ≤ a1) = false := decide_eq_false c3
  clear c3
  by_cases c4 : 0 ≤ a1
  ·rw [if_pos c4] at H
   have c4b0 : decide (0 ≤ a1) = true := decide_eq_true c4
   clear c4
   by_cases c5 : a1 < (a0.size : Int)
   ·rw [if_pos c5] at H
    have c5b0 : decide (a1 < (a0.size : Int)) = true := decide_eq_true c5
    clear c5
    by_cases c7 : (bt a0 a1) = 110
    ·rw [if_pos c7] at H
     have c7b0 : ((bt a0 a1) == 110) = true := beq_iff_eq.mpr c7
     have c7b1 : ((bt a0 a1) != 110) = false := bne_eq_false_iff_eq.mpr c7
     clear c7
     simp only [Option.some.injEq, Prod.mk.injEq] at H
     obtain ⟨rfl, rfl⟩ := H
     have p6 : 0 ≤ (a1 : Int) := of_decide_eq_true zb5
     have q6 : a1 < (a0.size : Int) := of_decide_eq_true zb5
     have hx6 := bt_at a0 a1
     replace p6 := eq_true p6
     replace q6 := eq_true q6
     go_enter Tryz.func78, Tryz.ntmps78
     go_wp2
     go_ret2
     exact ⟨zb8, zb0⟩
    ·rw [if_neg c7] at H
     have c7b0 : ((bt a0 a1) == 110) = false := beq_eq_false_iff_ne.mpr c7
     have c7b1 : ((bt a0 a1) != 110) = true := bne_iff_ne.mpr c7
     have HC8 := Aside0.mk H
     clear H
     have p6 : 0 ≤ (a1 : Int) := of_decide_eq_true zb5
     have q6 : a1 < (a0.size : Int) := of_decide_eq_true zb5
     have hx6 := bt_at a0 a1
     replace p6 := eq_true p6
     replace q6 := eq_true q6
     go_enter Tryz.func78, Tryz.ntmps78
     go_upto_region 5 with (fail)
     go_cut [20] (fun v20 wc => ∃ (kq : Nat) (x20_7 : Bool), v20 = .bool x20_7 ∧ Aside0 (spec_l01Escape.j0 kq a0 a1 x20_7 = some (r1, r2)) ∧ Aside0 (kq ≤ k) ∧ Aside0 (Below w.heap.size w wc))
     case first =>
      have H := HC8.out
      clear HC8
      by_cases c10 : (bt a0 a1) = 120
      ·rw [if_pos c10] at H
       have c10b0 : ((bt a0 a1) == 120) = true := beq_iff_eq.mpr c10
       have c10b1 : ((bt a0 a1) != 120) = false := bne_eq_false_iff_eq.mpr c10
       clear c10
       (first | rw [c10b0] | (simp only [i64_w, i32_w]; rw [c10b0]) | skip)
       have H' := Aside0.mk H
       clear H
       have p9 : 0 ≤ (a1 : Int) := of_decide_eq_true zb5
       have q9 : a1 < (a0.size : Int) := of_decide_eq_true zb5
       have hx9 := bt_at a0 a1
       replace p9 := eq_true p9
       replace q9 := eq_true q9
       go_wp2
       go_meet
       case rel => exact ⟨_, (decide ((wrap64 (a1 + 3)) ≤ (a0.size : Int))), zb7, H', ⟨zb37⟩, ⟨zb0⟩⟩
      ·rw [if_neg c10] at H
       have c10b0 : ((bt a0 a1) == 120) = false := beq_eq_false_iff_ne.mpr c10
       have c10b1 : ((bt a0 a1) != 120) = true := bne_iff_ne.mpr c10
       (first | rw [c10b0] | (simp only [i64_w, i32_w]; rw [c10b0]) | skip)
       have H' := Aside0.mk H
       clear H
       have p9 : 0 ≤ (a1 : Int) := of_decide_eq_true zb5
       have q9 : a1 < (a0.size : Int) := of_decide_eq_true zb5
       have hx9 := bt_at a0 a1
       replace p9 := eq_true p9
       replace q9 := eq_true q9
       go_wp2
       go_meet
       case rel => exact ⟨_, (false), zb7, H', ⟨zb37⟩, ⟨zb0⟩⟩
     case rest =>
      clear HC8
      try clear c1
      try clear p2
      try clear c3
      try clear c3b0
      try clear c4
      try clear c4b0
      try clear c5
      try clear c5b0
      try clear p6
      try clear q6
      try clear hx6
      try clear c7
      try clear c7b0
      try clear c7b1
      try clear p9
      try clear q9
      try clear hx9
      try clear c10
      try clear c10b0
      try clear c10b1
      try clear p6
      try clear p9
      try clear q6
      try clear q9
      obtain ⟨kq, x20_7, rfl, HA, HJ7, HB⟩ := hcut
      cases kq with
      | zero => exact absurd HA.out (by simp [spec_l01Escape.j0])
      | succ kj7 =>
       have H := HA.out
       clear HA
       simp only [spec_l01Escape.j0] at H
       by_cases c11 : x20_7 = true
       ·subst c11
        rw [if_pos rfl] at H
        obtain ⟨ji12, hji12⟩ : ∃ j_ : Int, (wrap64 (a1 + 1)) = j_ := ⟨_, rfl⟩
        replace H : (if 0 ≤ (ji12) then (if (ji12) ≤ (wrap64 (a1 + 3)) then (if (wrap64 (a1 + 3)) ≤ (a0.size : Int) then ((spec_GetHex.f kj7 (a0.extract ((ji12) : Int).toNat ((wrap64 (a1 + 3)) : Int).toNat)).bind fun bt321 => (if bt321.2 = true then (some (bt321.1, wrap64 (a1 + 3))) else (some ((⟨#[]⟩ : ByteArray), (-1))))) else (none)) else (none)) else (none)) = some (r1, r2) := by first | (rw [hji12] at H; exact H) | (simp only [hji12] at H ⊢; exact H)
        have hji12w : (IntKind.i64.wrap (a1 + 1)) = ji12 := (i64_w _).trans hji12
        by_cases c13 : 0 ≤ (ji12)
        ·rw [if_pos c13] at H
         have c13b0 := eq_true c13
         have c13b1 : decide (0 ≤ (ji12)) = true := decide_eq_true c13
         clear c13
         by_cases c14 : (ji12) ≤ (wrap64 (a1 + 3))
         ·rw [if_pos c14] at H
          have c14b0 := eq_true c14
          have c14b1 : decide ((ji12) ≤ (wrap64 (a1 + 3))) = true := decide_eq_true c14
          by_cases c15 : (wrap64 (a1 + 3)) ≤ (a0.size : Int)
          ·rw [if_pos c15] at H
           have c15b0 := eq_true c15
           have c15b1 : decide ((wrap64 (a1 + 3)) ≤ (a0.size : Int)) = true := decide_eq_true c15
           obtain ⟨js16, hjs16⟩ : ∃ j_ : ByteArray, (a0.extract ((ji12) : Int).toNat ((wrap64 (a1 + 3)) : Int).toNat) = j_ := ⟨_, rfl⟩
           replace H : ((spec_GetHex.f kj7 (js16)).bind fun bt321 => (if bt321.2 = true then (some (bt321.1, wrap64 (a1 + 3))) else (some ((⟨#[]⟩ : ByteArray), (-1))))) = some (r1, r2) := by first | (rw [hjs16] at H; exact H) | (simp only [hjs16] at H ⊢; exact H)
           replace H := Option.bind_eq_some_iff.mp H
           obtain ⟨⟨t321, t322⟩, A170, H⟩ := H
           try dsimp only at H
           have A17 := Aside0.mk A170
           clear A170
           by_cases c18 : t322 = true
           ·subst c18
            rw [if_pos rfl] at H
            simp only [Option.some.injEq, Prod.mk.injEq] at H
            obtain ⟨rfl, rfl⟩ := H
            go_wp2_with (first | ((with_reducible refine gate_callee (f := 121) rfl ?_); refine goesL_ (some 39) rfl rfl Tryz.func121 zb13 rfl #[.string js16] rfl zb2 ?_; (with_reducible refine (spec_GetHex.calls kj7 js16 t321 true _ A17.out).mono ?_); rintro e w19 ⟨rfl, hb⟩; refine ⟨_, rfl, ?_⟩; replace HB := Aside0.mk (below_step zb0 hb); (try clear hb)))
            go_ret2
            exact ⟨zb38, zb0⟩
           ·replace c18 := Bool.eq_false_iff.mpr c18
            subst c18
            rw [if_neg (show ¬ (false = true) by decide)] at H
            simp only [Option.some.injEq, Prod.mk.injEq] at H
            obtain ⟨rfl, rfl⟩ := H
            go_wp2_with (first | ((with_reducible refine gate_callee (f := 121) rfl ?_); refine goesL_ (some 39) rfl rfl Tryz.func121 zb13 rfl #[.string js16] rfl zb2 ?_; (with_reducible refine (spec_GetHex.calls kj7 js16 t321 false _ A17.out).mono ?_); rintro e w20 ⟨rfl, hb⟩; refine ⟨_, rfl, ?_⟩; replace HB := Aside0.mk (below_step zb0 hb); (try clear hb)))
            go_ret2
            exact ⟨zb38, zb0⟩
          ·rw [if_neg c15] at H
           exact absurd H zb26
         ·rw [if_neg c14] at H
          exact absurd H zb26
        ·rw [if_neg c13] at H
         exact absurd H zb26
       ·replace c11 := Bool.eq_false_iff.mpr c11
        subst c11
        rw [if_neg (show ¬ (false = true) by decide)] at H
        by_cases c21 : 0 ≤ a1
        ·rw [if_pos c21] at H
         have c21b0 : decide (0 ≤ a1) = true := decide_eq_true c21
         clear c21
         by_cases c22 : a1 < (a0.size : Int)
         ·rw [if_pos c22] at H
          have c22b0 : decide (a1 < (a0.size : Int)) = true := decide_eq_true c22
          clear c22
          by_cases c24 : (bt a0 a1) = 34
          ·rw [if_pos c24] at H
           have c24b0 : ((bt a0 a1) == 34) = true := beq_iff_eq.mpr c24
           have c24b1 : ((bt a0 a1) != 34) = false := bne_eq_false_iff_eq.mpr c24
           clear c24
           have c25b0 := eq_true (of_decide_eq_true zb5 : 0 ≤ a1)
           by_cases c26 : a1 ≤ (wrap64 (a1 + 1))
           ·rw [if_pos c26] at H
            have c26b0 := eq_true c26
            have c26b1 : decide (a1 ≤ (wrap64 (a1 + 1))) = true := decide_eq_true c26
            by_cases c27 : (wrap64 (a1 + 1)) ≤ (a0.size : Int)
            ·rw [if_pos c27] at H
             have c27b0 := eq_true c27
             have c27b1 : decide ((wrap64 (a1 + 1)) ≤ (a0.size : Int)) = true := decide_eq_true c27
             obtain ⟨js28, hjs28⟩ : ∃ j_ : ByteArray, (a0.extract (a1 : Int).toNat ((wrap64 (a1 + 1)) : Int).toNat) = j_ := ⟨_, rfl⟩
             replace H : (some (js28, wrap64 (a1 + 1))) = some (r1, r2) := by first | (rw [hjs28] at H; exact H) | (simp only [hjs28] at H ⊢; exact H)
             simp only [Option.some.injEq, Prod.mk.injEq] at H
             obtain ⟨rfl, rfl⟩ := H
             have p23 : 0 ≤ (a1 : Int) := of_decide_eq_true zb5
             have q23 : a1 < (a0.size : Int) := of_decide_eq_true zb5
             have hx23 := bt_at a0 a1
             replace p23 := eq_true p23
             replace q23 := eq_true q23
             go_wp2
             go_ret2
             exact ⟨(by first | rfl | (simp [errW_none, errW_some] <;> rfl) | (simp only [← hjs28]; first | rfl | (simp [errW_none, errW_some] <;> rfl)) | (simp [*, errW_none, errW_some] <;> rfl)), zb0⟩
            ·rw [if_neg c27] at H
             exact absurd H zb26
           ·rw [if_neg c26] at H
            exact absurd H zb26
          ·rw [if_neg c24] at H
           have c24b0 : ((bt a0 a1) == 34) = false := beq_eq_false_iff_ne.mpr c24
           have c24b1 : ((bt a0 a1) != 34) = true := bne_iff_ne.mpr c24
           by_cases c30 : (bt a0 a1) = 92
           ·rw [if_pos c30] at H
            have c30b0 : ((bt a0 a1) == 92) = true := beq_iff_eq.mpr c30
            have c30b1 : ((bt a0 a1) != 92) = false := bne_eq_false_iff_eq.mpr c30
            clear c30
            have c31b0 := eq_true (of_decide_eq_true zb5 : 0 ≤ a1)
            by_cases c32 : a1 ≤ (wrap64 (a1 + 1))
            ·rw [if_pos c32] at H
             have c32b0 := eq_true c32
             have c32b1 : decide (a1 ≤ (wrap64 (a1 + 1))) = true := decide_eq_true c32
             by_cases c33 : (wrap64 (a1 + 1)) ≤ (a0.size : Int)
             ·rw [if_pos c33] at H
              have c33b0 := eq_true c33
              have c33b1 : decide ((wrap64 (a1 + 1)) ≤ (a0.size : Int)) = true := decide_eq_true c33
              obtain ⟨js34, hjs34⟩ : ∃ j_ : ByteArray, (a0.extract (a1 : Int).toNat ((wrap64 (a1 + 1)) : Int).toNat) = j_ := ⟨_, rfl⟩
              replace H : (some (js34, wrap64 (a1 + 1))) = some (r1, r2) := by first | (rw [hjs34] at H; exact H) | (simp only [hjs34] at H ⊢; exact H)
              simp only [Option.some.injEq, Prod.mk.injEq] at H
              obtain ⟨rfl, rfl⟩ := H
              have p23 : 0 ≤ (a1 : Int) := of_decide_eq_true zb5
              have q23 : a1 < (a0.size : Int) := of_decide_eq_true zb5
              have hx23 := bt_at a0 a1
              replace p23 := eq_true p23
              replace q23 := eq_true q23
              have p29 : 0 ≤ (a1 : Int) := of_decide_eq_true zb5
              have q29 : a1 < (a0.size : Int) := of_decide_eq_true zb5
              have hx29 := bt_at a0 a1
              replace p29 := eq_true p29
              replace q29 := eq_true q29
              go_wp2
              go_ret2
              exact ⟨(by first | rfl | (simp [errW_none, errW_some] <;> rfl) | (simp only [← hjs34]; first | rfl | (simp [errW_none, errW_some] <;> rfl)) | (simp [*, errW_none, errW_some] <;> rfl)), zb0⟩
             ·rw [if_neg c33] at H
              exact absurd H zb26
            ·rw [if_neg c32] at H
             exact absurd H zb26
           ·rw [if_neg c30] at H
            have c30b0 : ((bt a0 a1) == 92) = false := beq_eq_false_iff_ne.mpr c30
            have c30b1 : ((bt a0 a1) != 92) = true := bne_iff_ne.mpr c30
            simp only [Option.some.injEq, Prod.mk.injEq] at H
            obtain ⟨rfl, rfl⟩ := H
            have p23 : 0 ≤ (a1 : Int) := of_decide_eq_true zb5
            have q23 : a1 < (a0.size : Int) := of_decide_eq_true zb5
            have hx23 := bt_at a0 a1
            replace p23 := eq_true p23
            replace q23 := eq_true q23
            have p29 : 0 ≤ (a1 : Int) := of_decide_eq_true zb5
            have q29 : a1 < (a0.size : Int) := of_decide_eq_true zb5
            have hx29 := bt_at a0 a1
            replace p29 := eq_true p29
            replace q29 := eq_true q29
            go_wp2
            go_ret2
            exact ⟨zb8, zb0⟩
         ·rw [if_neg c22] at H
          exact absurd H zb26
        ·rw [if_neg c21] at H
         exact absurd H zb26
   ·rw [if_neg c5] at H
    exact absurd H zb26
  ·rw [if_neg c4] at H
   exact absurd H zb26
def spec_Unquote.T13 : Bool × List (List Nat × List Nat) := (true, [([], []), ([], []), ([1], [1]), ([0, 2], [0, 2]), ([3], [3]), ([4], [4]), ([5, 4, 4], [4, 5]), ([4], [4]), ([4], [4]), ([4], [4]), ([9, 4], [4, 9]), ([7, 8, 10, 4], [4, 7, 8, 10]), ([6, 11, 4], [4, 6, 11]), ([4, 12], [4, 12])])
def spec_Unquote.B13 : List Nat := [0, 0, 2, 7, 15, 31, 63, 31, 31, 31, 543, 1951, 4095, 8191]
theorem spec_Unquote.tab13 : rtab .any (opsOf Tryz.f26 13) = spec_Unquote.T13 := by kernel_rfl
theorem spec_Unquote.bits13 : waitsOk spec_Unquote.T13.2 spec_Unquote.B13 = true := by kernel_rfl
set_option maxHeartbeats 8000000 in
set_option maxRecDepth 100000 in
theorem spec_Unquote.calls (k : Nat) (a0 : ByteArray) (a1 : Int) (r1 : ByteArray) (r2 : Int) (w : World) (h : spec_Unquote.f k a0 a1 = some (r1, r2)) :
  Calls Tryz.prog 26 #[.string a0, .int .i64 a1] w fun e w' => e = .returned (.tuple #[.string r1, .int .i64 r2]) ∧ Below w.heap.size w w' := by
 have HB := Aside0.mk (Below.refl w.heap.size w)
 have H : (if a1 < 0 then (spec_Unquote.j0 k a0 a1 true) else (if a1 ≥ (a0.size : Int) then (spec_Unquote.j0 k a0 a1 true) else (if 0 ≤ a1 then (if a1 < (a0.size : Int) then (spec_Unquote.j0 k a0 a1 ((bt a0 a1) != 34)) else (none)) else (none)))) = some (r1, r2) := h
 clear h
 have HC3 := Aside0.mk H
 clear H
 go_enter Tryz.func26, Tryz.ntmps26
 go_upto_region 1 with (fail)
 go_cut [23] (fun v23 wc => ∃ (kq : Nat) (x23_2 : Bool), v23 = .bool x23_2 ∧ Aside0 (spec_Unquote.j0 kq a0 a1 x23_2 = some (r1, r2)) ∧ Aside0 (kq ≤ k) ∧ Aside0 (Below w.heap.size w wc))
 case first =>
  have H := HC3.out
  clear HC3
  by_cases c4 : a1 < 0
  ·rw [if_pos c4] at H
   have c4b0 : decide (a1 < 0) = true := decide_eq_true c4
   clear c4
   (first | rw [c4b0] | (simp only [i64_w, i32_w]; rw [c4b0]) | skip)
   have H' := Aside0.mk H
   clear H
   go_wp2
   go_meet
   case rel => exact ⟨_, (true), zb7, H', ⟨zb37⟩, ⟨zb0⟩⟩
  ·rw [if_neg c4] at H
   have c4b0 : decide (a1 < 0) = false := decide_eq_false c4
   clear c4
   (first | rw [c4b0] | (simp only [i64_w, i32_w]; rw [c4b0]) | skip)
   by_cases c5 : a1 ≥ (a0.size : Int)
   ·rw [if_pos c5] at H
    have c5b0 : decide ((a0.size : Int) ≤ a1) = true := decide_eq_true c5
    clear c5
    have H' := Aside0.mk H
    clear H
    go_wp2
    go_meet
    case rel => exact ⟨_, (true), zb7, H', ⟨zb37⟩, ⟨zb0⟩⟩
   ·rw [if_neg c5] at H
    have c5b0 : decide ((a0.size : Int) ≤ a1) = false := decide_eq_false c5
    clear c5
    by_cases c6 : 0 ≤ a1
    ·rw [if_pos c6] at H
     have c6b0 : decide (0 ≤ a1) = true := decide_eq_true c6
     clear c6
     by_cases c7 : a1 < (a0.size : Int)
     ·rw [if_pos c7] at H
      have c7b0 : decide (a1 < (a0.size : Int)) = true := decide_eq_true c7
      clear c7
      have H' := Aside0.mk H
      clear H
      have p8 : 0 ≤ (a1 : Int) := of_decide_eq_true zb5
      have q8 : a1 < (a0.size : Int) := of_decide_eq_true zb5
      have hx8 := bt_at a0 a1
      replace p8 := eq_true p8
      replace q8 := eq_true q8
      go_wp2
      go_meet
      case rel => exact ⟨_, (((bt a0 a1) != 34)), zb7, H', ⟨zb37⟩, ⟨zb0⟩⟩
     ·rw [if_neg c7] at H
      exact absurd H zb26
    ·rw [if_neg c6] at H
     exact absurd H zb26
 case rest =>
  clear HC3
  try clear c2
  try clear p2
  try clear c4
  try clear c4b0
  try clear c5
  try clear c5b0
  try clear c6
  try clear c6b0
  try clear c7
  try clear c7b0
  try clear p8
  try clear q8
  try clear hx8
  try clear p8
  try clear q8
  obtain ⟨kq, x23_2, rfl, HA, HJ2, HB⟩ := hcut
  cases kq with
  | zero => exact absurd HA.out (by simp [spec_Unquote.j0])
  | succ kj2 =>
   have H := HA.out
   clear HA
   simp only [spec_Unquote.j0] at H
   by_cases c9 : x23_2 = true
   ·subst c9
    rw [if_pos rfl] at H
    simp only [Option.some.injEq, Prod.mk.injEq] at H
    obtain ⟨rfl, rfl⟩ := H
    go_wp2
    go_ret2
    exact ⟨zb8, zb0⟩
   ·replace c9 := Bool.eq_false_iff.mpr c9
    subst c9
    rw [if_neg (show ¬ (false = true) by decide)] at H
    have H' := Aside0.mk H
    clear H
    go_wp2
    go_loopg [6, 7] kj2 (fun kq v6 v7 w' => ∃ (x6_2 : ByteArray) (x7_2 : Int), v6 = .string x6_2 ∧ v7 = .int .i64 x7_2 ∧ Aside0 (spec_Unquote.l0 kq a0 a1 x6_2 x7_2 = some (r1, r2)) ∧ Aside0 (kq ≤ kj2) ∧ Aside0 (Below w.heap.size w w'))
    case atStart => exact ⟨((⟨#[]⟩ : ByteArray)), (wrap64 (a1 + 1)), zb7, zb7, H', ⟨Nat.le_refl _⟩, ⟨zb0⟩⟩
    case round =>
     clear H'
     try clear c2
     try clear p2
     try clear c4
     try clear c4b0
     try clear c5
     try clear c5b0
     try clear c6
     try clear c6b0
     try clear p6
     try clear c7
     try clear c7b0
     try clear p8
     try clear q8
     try clear hx8
     try clear c9
     try clear p2
     try clear p8
     try clear q8
     obtain ⟨x6_2, x7_2, rfl, rfl, HA, HK2, HB⟩ := hrel
     cases gk with
     | zero => exact absurd HA.out (by simp [spec_Unquote.l0])
     | succ k2 =>
      have H := HA.out
      clear HA
      simp only [spec_Unquote.l0] at H
      have HC10 := Aside0.mk H
      clear H
      go_upto_region 5 with (fail)
      go_cut [35] (fun v35 wc => ∃ (kq : Nat) (x35_9 : Bool), v35 = .bool x35_9 ∧ Aside0 (spec_Unquote.j2 kq a0 a1 x6_2 x7_2 x35_9 = some (r1, r2)) ∧ Aside0 (kq ≤ k2) ∧ Aside0 (Below w.heap.size w wc))
      case first =>
       have H := HC10.out
       clear HC10
       by_cases c11 : x7_2 < (a0.size : Int)
       ·rw [if_pos c11] at H
        have c11b0 : decide (x7_2 < (a0.size : Int)) = true := decide_eq_true c11
        clear c11
        (first | rw [c11b0] | (simp only [i64_w, i32_w]; rw [c11b0]) | skip)
        by_cases c12 : 0 ≤ x7_2
        ·rw [if_pos c12] at H
         have c12b0 : decide (0 ≤ x7_2) = true := decide_eq_true c12
         clear c12
         have H' := Aside0.mk H
         clear H
         have p13 : 0 ≤ (x7_2 : Int) := of_decide_eq_true zb5
         have q13 : x7_2 < (a0.size : Int) := of_decide_eq_true zb5
         have hx13 := bt_at a0 x7_2
         replace p13 := eq_true p13
         replace q13 := eq_true q13
         go_wp2
         go_meet
         case rel => exact ⟨_, (((bt a0 x7_2) != 34)), zb7, H', ⟨by have := HJ2.out; have := HK2.out; first | omega | exact Nat.le_refl _⟩, ⟨zb0⟩⟩
        ·rw [if_neg c12] at H
         exact absurd H zb26
       ·rw [if_neg c11] at H
        have c11b0 : decide (x7_2 < (a0.size : Int)) = false := decide_eq_false c11
        clear c11
        (first | rw [c11b0] | (simp only [i64_w, i32_w]; rw [c11b0]) | skip)
        have H' := Aside0.mk H
        clear H
        go_wp2
        go_meet
        case rel => exact ⟨_, (false), zb7, H', ⟨by have := HJ2.out; have := HK2.out; first | omega | exact Nat.le_refl _⟩, ⟨zb0⟩⟩
      case rest =>
       clear HC10
       try clear c1
       try clear p1
       try clear q1
       try clear hx1
       try clear c2
       try clear p2
       try clear c4
       try clear c4b0
       try clear c5
       try clear c5b0
       try clear c6
       try clear c6b0
       try clear p6
       try clear c7
       try clear c7b0
       try clear p8
       try clear q8
       try clear hx8
       try clear c9
       try clear c11
       try clear c11b0
       try clear c12
       try clear c12b0
       try clear p13
       try clear q13
       try clear hx13
       try clear p13
       try clear p2
       try clear p6
       try clear p8
       try clear q13
       try clear q8
       obtain ⟨kq, x35_9, rfl, HA, HJ9, HB⟩ := hcut
       cases kq with
       | zero => exact absurd HA.out (by simp [spec_Unquote.j2])
       | succ kj9 =>
        have H := HA.out
        clear HA
        simp only [spec_Unquote.j2] at H
        by_cases c14 : x35_9 = true
        ·subst c14
         rw [if_pos rfl] at H
         by_cases c15 : 0 ≤ x7_2
         ·rw [if_pos c15] at H
          have c15b0 := eq_true c15
          have c15b1 : decide (0 ≤ x7_2) = true := decide_eq_true c15
          clear c15
          by_cases c16 : x7_2 ≤ (wrap64 (x7_2 + 1))
          ·rw [if_pos c16] at H
           have c16b0 := eq_true c16
           have c16b1 : decide (x7_2 ≤ (wrap64 (x7_2 + 1))) = true := decide_eq_true c16
           by_cases c17 : (wrap64 (x7_2 + 1)) ≤ (a0.size : Int)
           ·rw [if_pos c17] at H
            have c17b0 := eq_true c17
            have c17b1 : decide ((wrap64 (x7_2 + 1)) ≤ (a0.size : Int)) = true := decide_eq_true c17
            obtain ⟨js18, hjs18⟩ : ∃ j_ : ByteArray, (a0.extract (x7_2 : Int).toNat ((wrap64 (x7_2 + 1)) : Int).toNat) = j_ := ⟨_, rfl⟩
            replace H : (if x7_2 < (a0.size : Int) then (if (bt a0 x7_2) = 92 then ((spec_l01Escape.f kj9 a0 (wrap64 (x7_2 + 1))).bind fun bt324 => (if bt324.2 < 0 then (some ((⟨#[]⟩ : ByteArray), (-1))) else (if x6_2.size + bt324.1.size ≤ 9223372036854775807 then (spec_Unquote.l0 kj9 a0 a1 (x6_2 ++ bt324.1) bt324.2) else (none)))) else (if (wrap64 (x7_2 + 1)) < 0 then (some ((⟨#[]⟩ : ByteArray), (-1))) else (if x6_2.size + (js18).size ≤ 9223372036854775807 then (spec_Unquote.l0 kj9 a0 a1 (x6_2 ++ (js18)) (wrap64 (x7_2 + 1))) else (none)))) else (none)) = some (r1, r2) := by first | (rw [hjs18] at H; exact H) | (simp only [hjs18] at H ⊢; exact H)
            by_cases c19 : x7_2 < (a0.size : Int)
            ·rw [if_pos c19] at H
             have c19b0 : decide (x7_2 < (a0.size : Int)) = true := decide_eq_true c19
             clear c19
             by_cases c21 : (bt a0 x7_2) = 92
             ·rw [if_pos c21] at H
              have c21b0 : ((bt a0 x7_2) == 92) = true := beq_iff_eq.mpr c21
              have c21b1 : ((bt a0 x7_2) != 92) = false := bne_eq_false_iff_eq.mpr c21
              clear c21
              replace H := Option.bind_eq_some_iff.mp H
              obtain ⟨⟨t324, t325⟩, A220, H⟩ := H
              try dsimp only at H
              have A22 := Aside0.mk A220
              clear A220
              by_cases c23 : t325 < 0
              ·rw [if_pos c23] at H
               have c23b0 : decide (t325 < 0) = true := decide_eq_true c23
               clear c23
               simp only [Option.some.injEq, Prod.mk.injEq] at H
               obtain ⟨rfl, rfl⟩ := H
               have p20 : 0 ≤ (x7_2 : Int) := of_decide_eq_true zb5
               have q20 : x7_2 < (a0.size : Int) := of_decide_eq_true zb5
               have hx20 := bt_at a0 x7_2
               replace p20 := eq_true p20
               replace q20 := eq_true q20
               go_wp2_with (first | ((with_reducible refine gate_callee (f := 78) rfl ?_); refine goesL_ (some 51) rfl rfl Tryz.func78 zb13 rfl #[.string a0, .int .i64 (wrap64 (x7_2 + 1))] rfl zb2 ?_; (with_reducible refine (spec_l01Escape.calls kj9 a0 (wrap64 (x7_2 + 1)) t324 t325 _ A22.out).mono ?_); rintro e w24 ⟨rfl, hb⟩; refine ⟨_, rfl, ?_⟩; replace HB := Aside0.mk (below_step zb0 hb); (try clear hb)))
               go_ret2
               exact ⟨zb43, zb0⟩
              ·rw [if_neg c23] at H
               have c23b0 : decide (t325 < 0) = false := decide_eq_false c23
               clear c23
               by_cases c25 : x6_2.size + t324.size ≤ 9223372036854775807
               ·rw [if_pos c25] at H
                have c25b0 := eq_true c25
                have c25b1 : decide (x6_2.size + t324.size ≤ 9223372036854775807) = true := decide_eq_true c25
                try have c25b2 : (9223372036854775807 < x6_2.size + t324.size) = False := eq_false (Nat.not_lt.2 c25)
                obtain ⟨js26, hjs26⟩ : ∃ j_ : ByteArray, (x6_2 ++ t324) = j_ := ⟨_, rfl⟩
                replace H : (spec_Unquote.l0 kj9 a0 a1 js26 t325) = some (r1, r2) := by first | (rw [hjs26] at H; exact H) | (simp only [hjs26] at H ⊢; exact H)
                (try rw [hjs26] at A22)
                have H' := Aside0.mk H
                clear H
                have p20 : 0 ≤ (x7_2 : Int) := of_decide_eq_true zb5
                have q20 : x7_2 < (a0.size : Int) := of_decide_eq_true zb5
                have hx20 := bt_at a0 x7_2
                replace p20 := eq_true p20
                replace q20 := eq_true q20
                go_wp2_with (first | ((with_reducible refine gate_callee (f := 78) rfl ?_); refine goesL_ (some 51) rfl rfl Tryz.func78 zb13 rfl #[.string a0, .int .i64 (wrap64 (x7_2 + 1))] rfl zb2 ?_; (with_reducible refine (spec_l01Escape.calls kj9 a0 (wrap64 (x7_2 + 1)) t324 t325 _ A22.out).mono ?_); rintro e w27 ⟨rfl, hb⟩; refine ⟨_, rfl, ?_⟩; replace HB := Aside0.mk (below_step zb0 hb); (try clear hb)))
                go_roundg kj9
                case measure => have := HJ2.out; have := HK2.out; have := HJ9.out; omega
                case rel => exact ⟨(js26), (t325), (by first | rfl | (simp; done) | (simp only [← hjs26] <;> (first | rfl | simp)) | (simp [*]; done)), zb7, H', ⟨by have := HJ2.out; have := HK2.out; have := HJ9.out; omega⟩, ⟨zb0⟩⟩
               ·rw [if_neg c25] at H
                exact absurd H zb26
             ·rw [if_neg c21] at H
              have c21b0 : ((bt a0 x7_2) == 92) = false := beq_eq_false_iff_ne.mpr c21
              have c21b1 : ((bt a0 x7_2) != 92) = true := bne_iff_ne.mpr c21
              by_cases c28 : (wrap64 (x7_2 + 1)) < 0
              ·rw [if_pos c28] at H
               have c28b0 : decide ((wrap64 (x7_2 + 1)) < 0) = true := decide_eq_true c28
               clear c28
               simp only [Option.some.injEq, Prod.mk.injEq] at H
               obtain ⟨rfl, rfl⟩ := H
               have p20 : 0 ≤ (x7_2 : Int) := of_decide_eq_true zb5
               have q20 : x7_2 < (a0.size : Int) := of_decide_eq_true zb5
               have hx20 := bt_at a0 x7_2
               replace p20 := eq_true p20
               replace q20 := eq_true q20
               go_wp2
               go_ret2
               exact ⟨zb43, zb0⟩
              ·rw [if_neg c28] at H
               have c28b0 : decide ((wrap64 (x7_2 + 1)) < 0) = false := decide_eq_false c28
               clear c28
               by_cases c29 : x6_2.size + (js18).size ≤ 9223372036854775807
               ·rw [if_pos c29] at H
                have c29b0 := eq_true c29
                have c29b1 : decide (x6_2.size + (js18).size ≤ 9223372036854775807) = true := decide_eq_true c29
                try have c29b2 : (9223372036854775807 < x6_2.size + (js18).size) = False := eq_false (Nat.not_lt.2 c29)
                obtain ⟨js30, hjs30⟩ : ∃ j_ : ByteArray, (x6_2 ++ (js18)) = j_ := ⟨_, rfl⟩
                replace H : (spec_Unquote.l0 kj9 a0 a1 js30 (wrap64 (x7_2 + 1))) = some (r1, r2) := by first | (rw [hjs30] at H; exact H) | (simp only [hjs30] at H ⊢; exact H)
                have H' := Aside0.mk H
                clear H
                have p20 : 0 ≤ (x7_2 : Int) := of_decide_eq_true zb5
                have q20 : x7_2 < (a0.size : Int) := of_decide_eq_true zb5
                have hx20 := bt_at a0 x7_2
                replace p20 := eq_true p20
                replace q20 := eq_true q20
                go_wp2
                go_roundg kj9
                case measure => have := HJ2.out; have := HK2.out; have := HJ9.out; omega
                case rel => exact ⟨(js30), (wrap64 (x7_2 + 1)), (by first | rfl | (simp; done) | (simp only [← hjs30] <;> (first | rfl | simp)) | (simp [*]; done)), zb7, H', ⟨by have := HJ2.out; have := HK2.out; have := HJ9.out; omega⟩, ⟨zb0⟩⟩
               ·rw [if_neg c29] at H
                exact absurd H zb26
            ·rw [if_neg c19] at H
             exact absurd H zb26
           ·rw [if_neg c17] at H
            exact absurd H zb26
          ·rw [if_neg c16] at H
           exact absurd H zb26
         ·rw [if_neg c15] at H
          exact absurd H zb26
        ·replace c14 := Bool.eq_false_iff.mpr c14
         subst c14
         rw [if_neg (show ¬ (false = true) by decide)] at H
         by_cases c31 : x7_2 ≥ (a0.size : Int)
         ·rw [if_pos c31] at H
          have c31b0 : decide ((a0.size : Int) ≤ x7_2) = true := decide_eq_true c31
          clear c31
          simp only [Option.some.injEq, Prod.mk.injEq] at H
          obtain ⟨rfl, rfl⟩ := H
          try go_wp2
          replace HB := Aside0.mk (below_drew1 HB.out)
          refine start_ (n := 14) (S := fun w' => True) (ds := []) #[false, false, false, false, false, false, false, false, false, false, false, false, false, false] zb13 rfl rfl trivial (fun hHeld => ?_); refine with_tabW spec_Unquote.tab13 spec_Unquote.bits13 (fun HT_ HW_ => ?_)
          generalize wc.drew = w32 at HB hHeld ⊢
          refine pz 0 60 ?_
          refine pz 1 61 ?_
          refine pz 2 62 ?_
          refine pz 3 63 ?_
          refine pz 4 64 ?_
          refine pu 5 65 ?_
          refine pu 6 66 ?_
          refine pu 7 67 ?_
          refine pu 8 68 ?_
          refine pu 9 69 ?_
          refine pu 10 70 ?_
          refine pu 11 71 ?_
          refine pu 12 72 ?_
          refine pz 13 73 ?_
          refine done_ (done_of HT_.out zb13) ?_
          try go_wp2
          go_ret2
          exact ⟨zb8, zb0⟩
         ·rw [if_neg c31] at H
          have c31b0 : decide ((a0.size : Int) ≤ x7_2) = false := decide_eq_false c31
          clear c31
          replace H := Option.bind_eq_some_iff.mp H
          obtain ⟨t323, A330, H⟩ := H
          try dsimp only at H
          have A33 := Aside0.mk A330
          clear A330
          by_cases c34 : 0 ≤ a1
          ·rw [if_pos c34] at H
           have c34b0 := eq_true c34
           have c34b1 : decide (0 ≤ a1) = true := decide_eq_true c34
           clear c34
           by_cases c35 : a1 ≤ (wrap64 (x7_2 + 1))
           ·rw [if_pos c35] at H
            have c35b0 := eq_true c35
            have c35b1 : decide (a1 ≤ (wrap64 (x7_2 + 1))) = true := decide_eq_true c35
            by_cases c36 : (wrap64 (x7_2 + 1)) ≤ (a0.size : Int)
            ·rw [if_pos c36] at H
             have c36b0 := eq_true c36
             have c36b1 : decide ((wrap64 (x7_2 + 1)) ≤ (a0.size : Int)) = true := decide_eq_true c36
             obtain ⟨js37, hjs37⟩ : ∃ j_ : ByteArray, (a0.extract (a1 : Int).toNat ((wrap64 (x7_2 + 1)) : Int).toNat) = j_ := ⟨_, rfl⟩
             replace H : (if t323.toList = (js37).toList then (some (x6_2, wrap64 (x7_2 + 1))) else (some ((⟨#[]⟩ : ByteArray), (-1)))) = some (r1, r2) := by first | (rw [hjs37] at H; exact H) | (simp only [hjs37] at H ⊢; exact H)
             (try rw [hjs37] at A33)
             by_cases c38 : t323.toList = (js37).toList
             ·rw [if_pos c38] at H
              have c38b0 : (t323.toList == (js37).toList) = true := beq_iff_eq.mpr c38
              have c38b1 : (t323.toList != (js37).toList) = false := bne_eq_false_iff_eq.mpr c38
              clear c38
              simp only [Option.some.injEq, Prod.mk.injEq] at H
              obtain ⟨rfl, rfl⟩ := H
              try go_wp2
              replace HB := Aside0.mk (below_drew1 HB.out)
              refine start_ (n := 14) (S := fun w' => True) (ds := []) #[false, false, false, false, false, false, false, false, false, false, false, false, false, false] zb13 rfl rfl trivial (fun hHeld => ?_); refine with_tabW spec_Unquote.tab13 spec_Unquote.bits13 (fun HT_ HW_ => ?_)
              generalize wc.drew = w39 at HB hHeld ⊢
              refine pz 0 60 ?_
              refine pz 1 61 ?_
              refine pz 2 62 ?_
              refine pz 3 63 ?_
              refine pz 4 64 ?_
              refine pz 5 65 ?_
              refine pz 7 67 ?_
              refine pz 8 68 ?_
              refine pz 9 69 ?_
              refine pz 10 70 ?_
              refine pz 11 71 ?_
              refine one_ (i := 6) (N := some 66) #[true, true, true, true, true, true, true, true, true, true, true, true, false, false] rfl rfl (one_of HT_.out zb13) zb33 (fun K hK => ?_)
              refine goes_ Tryz.func39 zb13 rfl #[.string x6_2] (by rfl) rfl rfl zb2 ?_
              with_reducible refine (spec_Quote.calls kj9 x6_2 t323 _ A33.out).mono ?_
              rintro e w40 ⟨rfl, hb⟩
              refine ⟨_, rfl, ?_⟩
              replace HB := Aside0.mk (below_step zb0 hb)
              (try clear hb)
              refine hK.out _ _ trivial (fun hHeld => ?_)
              clear hK K
              refine norm_ (a' := ?_) ?_ ?_
              rotate_left
              ·show Act.put _ (some 66) _ = _
               simp only [Act.put, List.setIfInBounds_toArray, List.set_cons_zero, List.set_cons_succ, i64_w, i32_w]
               rfl
              refine pz 12 72 ?_
              refine pz 13 73 ?_
              refine done_ (done_of HT_.out zb13) ?_
              try go_wp2
              go_ret2
              exact ⟨zb41, zb0⟩
             ·rw [if_neg c38] at H
              have c38b0 : (t323.toList == (js37).toList) = false := beq_eq_false_iff_ne.mpr c38
              have c38b1 : (t323.toList != (js37).toList) = true := bne_iff_ne.mpr c38
              simp only [Option.some.injEq, Prod.mk.injEq] at H
              obtain ⟨rfl, rfl⟩ := H
              try go_wp2
              replace HB := Aside0.mk (below_drew1 HB.out)
              refine start_ (n := 14) (S := fun w' => True) (ds := []) #[false, false, false, false, false, false, false, false, false, false, false, false, false, false] zb13 rfl rfl trivial (fun hHeld => ?_); refine with_tabW spec_Unquote.tab13 spec_Unquote.bits13 (fun HT_ HW_ => ?_)
              generalize wc.drew = w41 at HB hHeld ⊢
              refine pz 0 60 ?_
              refine pz 1 61 ?_
              refine pz 2 62 ?_
              refine pz 3 63 ?_
              refine pz 4 64 ?_
              refine pz 5 65 ?_
              refine pz 7 67 ?_
              refine pz 8 68 ?_
              refine pz 9 69 ?_
              refine pz 10 70 ?_
              refine pz 11 71 ?_
              refine one_ (i := 6) (N := some 66) #[true, true, true, true, true, true, true, true, true, true, true, true, false, false] rfl rfl (one_of HT_.out zb13) zb33 (fun K hK => ?_)
              refine goes_ Tryz.func39 zb13 rfl #[.string x6_2] (by rfl) rfl rfl zb2 ?_
              with_reducible refine (spec_Quote.calls kj9 x6_2 t323 _ A33.out).mono ?_
              rintro e w42 ⟨rfl, hb⟩
              refine ⟨_, rfl, ?_⟩
              replace HB := Aside0.mk (below_step zb0 hb)
              (try clear hb)
              refine hK.out _ _ trivial (fun hHeld => ?_)
              clear hK K
              refine norm_ (a' := ?_) ?_ ?_
              rotate_left
              ·show Act.put _ (some 66) _ = _
               simp only [Act.put, List.setIfInBounds_toArray, List.set_cons_zero, List.set_cons_succ, i64_w, i32_w]
               rfl
              refine pz 12 72 ?_
              refine pz 13 73 ?_
              refine done_ (done_of HT_.out zb13) ?_
              try go_wp2
              go_ret2
              exact ⟨zb41, zb0⟩
            ·rw [if_neg c36] at H
             exact absurd H zb26
           ·rw [if_neg c35] at H
            exact absurd H zb26
          ·rw [if_neg c34] at H
           exact absurd H zb26
set_option maxHeartbeats 8000000 in
set_option maxRecDepth 100000 in
theorem spec_DrawLines.calls (k : Nat) (A0 : Option Addr) (c0 : Nat) (l0 : List Int) (r : ByteArray) (w : World) (hr0 : Kd.C (Kd.int .u8) w A0 l0.length l0) (hc0 : l0.length ≤ c0) (h : spec_DrawLines.f k l0 = some r) :
  Calls Tryz.prog 27 #[.slice A0 l0.length c0] w fun e w' => e = .returned (.string r) ∧ Below w.heap.size w w' := by
 have HR0 := Aside0.mk hr0
 have HC0 := Aside0.mk hc0
 clear hr0 hc0
 have HB := Aside0.mk (Below.refl w.heap.size w)
 have H : ((spec_l01New.f k l0).bind fun bt326 => ((spec_l01Below.f bt326.1 bt326.2.1 bt326.2.2 6).bind fun bt330 => (spec_DrawLines.l0 k (⟨#[]⟩ : ByteArray) bt330.1 0 bt326.1 bt330.2.1 bt330.2.2))) = some r := h
 clear h
 replace H := Option.bind_eq_some_iff.mp H
 obtain ⟨⟨t326, t327, t328⟩, A20, H⟩ := H
 try dsimp only at H
 have A2 := Aside0.mk A20
 clear A20
 replace H := Option.bind_eq_some_iff.mp H
 obtain ⟨⟨t330, t331, t332⟩, A30, H⟩ := H
 try dsimp only at H
 have A3 := Aside0.mk A30
 clear A30
 have H' := Aside0.mk H
 clear H
 go_enter Tryz.func27, Tryz.ntmps27
 go_wp2_with (first | ((with_reducible refine gate_callee (f := 54) rfl ?_); refine goesL_ (some 8) rfl rfl Tryz.func54 zb13 rfl #[.slice A0 l0.length c0] rfl zb2 ?_; (with_reducible refine (spec_l01New.calls k _ _ l0 t326 t327 t328 w _ ?side1 ?side2 ?side3 A2.out).mono ?_); (case side1 => exact zb0); (case side2 => exact HR0.out); (case side3 => exact HC0.out); rintro e w4 ⟨g329, rfl, hi, hb, hb2⟩; refine ⟨_, rfl, ?_⟩; replace HB := Aside0.mk hb; have HI329 := Aside0.mk hi; (try clear hb); (try clear hb2); (try clear hk); (try clear hi)) | ((with_reducible refine gate_callee (f := 79) rfl ?_); refine goesL_ (some 10) rfl rfl Tryz.func79 zb13 rfl #[.pointer (some ⟨g329, 0, none⟩), .int .i64 6] rfl zb2 ?_; (with_reducible refine (spec_l01Below.calls g329 t326 t327 t328 6 t330 t331 t332 w _ ?side1 ?side2 A3.out).mono ?_); (case side1 => exact zb24); (case side2 => exact zb19); rintro e w5 ⟨rfl, hi, hb, hk⟩; refine ⟨_, rfl, ?_⟩; replace HB := Aside0.mk hb; replace HI329 := Aside0.mk hi; (try clear hb); (try clear hb2); (try clear hk); (try clear hi)))
 go_loopg [4, 6] k (fun kq v4 v6 w' => ∃ (x4_1 : ByteArray) (x6_1 : Int) (x330001_1 : Int) (x330002_1 : Int), v4 = .string x4_1 ∧ v6 = .int .i64 x6_1 ∧ Aside0 (spec_DrawLines.l0 kq x4_1 t330 x6_1 t326 x330001_1 x330002_1 = some r) ∧ Aside0 (kq ≤ k) ∧ Aside0 (IsS85 w w' g329 t326 x330001_1 x330002_1) ∧ Aside0 (Below w.heap.size w w'))
 case atStart => exact ⟨((⟨#[]⟩ : ByteArray)), (0), (t331), (t332), zb7, zb7, H', ⟨Nat.le_refl _⟩, ⟨zb24⟩, ⟨zb19⟩⟩
 case round =>
  clear H'
  try clear c2
  try clear p2
  try clear c5
  obtain ⟨x4_1, x6_1, x330001_1, x330002_1, rfl, rfl, HA, HK1, HI329, HB⟩ := hrel
  cases gk with
  | zero => exact absurd HA.out (by simp [spec_DrawLines.l0])
  | succ k1 =>
   have H := HA.out
   clear HA
   simp only [spec_DrawLines.l0] at H
   by_cases c6 : x6_1 < t330
   ·rw [if_pos c6] at H
    have c6b0 : decide (x6_1 < t330) = true := decide_eq_true c6
    clear c6
    obtain ⟨y333, hy333⟩ : ∃ y_ : List ByteArray, y_ = (([(⟨#[97]⟩ : ByteArray), (⟨#[10]⟩ : ByteArray), (⟨#[98, 99]⟩ : ByteArray), (⟨#[10]⟩ : ByteArray), (⟨#[]⟩ : ByteArray)] : List ByteArray)) := ⟨_, rfl⟩
    first | replace H := hb1 H (show (spec_l01Pick.f t326 x330001_1 x330002_1 y333) = _ from (by rw [hy333])) | replace H := hb1 (hb2 H) (show (spec_l01Pick.f t326 x330001_1 x330002_1 y333) = _ from (by rw [hy333]))
    have Ny333 := Aside0.mk hy333
    clear hy333
    replace H := Option.bind_eq_some_iff.mp H
    obtain ⟨⟨t336, t337, t338⟩, A70, H⟩ := H
    try dsimp only at H
    have A7 := Aside0.mk A70
    clear A70
    by_cases c8 : x4_1.size + t336.size ≤ 9223372036854775807
    ·rw [if_pos c8] at H
     have c8b0 := eq_true c8
     have c8b1 : decide (x4_1.size + t336.size ≤ 9223372036854775807) = true := decide_eq_true c8
     try have c8b2 : (9223372036854775807 < x4_1.size + t336.size) = False := eq_false (Nat.not_lt.2 c8)
     obtain ⟨js9, hjs9⟩ : ∃ j_ : ByteArray, (x4_1 ++ t336) = j_ := ⟨_, rfl⟩
     replace H : (spec_DrawLines.l0 k1 js9 t330 (wrap64 (x6_1 + 1)) t326 t337 t338) = some r := by first | (rw [hjs9] at H; exact H) | (simp only [hjs9] at H ⊢; exact H)
     (try rw [hjs9] at A7)
     have H' := Aside0.mk H
     clear H
     go_wp2_with (first | ((with_reducible refine gate_dst (N := 18) rfl ?_); refine Kd.R_lit Kd.string _ 9 ?hg (N := 18) ?hd (xs := ([(⟨#[97]⟩ : ByteArray), (⟨#[10]⟩ : ByteArray), (⟨#[98, 99]⟩ : ByteArray), (⟨#[10]⟩ : ByteArray), (⟨#[]⟩ : ByteArray)] : List ByteArray)) (inner := [.string (⟨#[97]⟩ : ByteArray), .string (⟨#[10]⟩ : ByteArray), .string (⟨#[98, 99]⟩ : ByteArray), .string (⟨#[10]⟩ : ByteArray), .string (⟨#[]⟩ : ByteArray)]) (ok := fun _ => True) (okp := fun _ => True) ?hr ?hp (fun _ hk => hk) trivial (Below.refl _ _) (Nat.le_refl _) zb26 ?_; (case hd => rfl); (case hg => rfl); (case hr => exact zb15); (case hp => exact zb16); intro v334 w10 ho11 hb hg_ hnew_; clear hg_ hnew_; (first | rw [← Ny333.out] at ho11 | (simp only [Int.reduceToNat] at ho11; rw [← Ny333.out] at ho11)); have HO335 := Aside0.mk (Kd.R_lower ho11 (below_size zb19)); replace HB := Aside0.mk (below_step zb19 hb); replace HI329 := Aside0.mk (IsS85.below zb24 hb); clear hb ho11; obtain ⟨Ao12, co12, eo12⟩ := Kd.R_slice HO335.out; subst eo12) | ((with_reducible refine gate_callee (f := 80) rfl ?_); refine goesL_ (some 19) rfl rfl Tryz.func80 zb13 rfl #[.pointer (some ⟨g329, 0, none⟩), .slice Ao12 y333.length co12] rfl zb2 ?_; (with_reducible refine (spec_l01Pick.calls g329 t326 x330001_1 x330002_1 _ _ y333 t336 t337 t338 w _ ?side1 ?side2 ?side3 ?side4 ?side5 A7.out).mono ?_); (case side1 => exact zb24); (case side2 => exact zb19); (case side3 => repeat (first | exact (Kd.R_reads' HO335.out).2.2 | (with_reducible refine Kd.C_alloc ?_ _) | (with_reducible refine Kd.C_drewN ?_ _) | (with_reducible refine Kd.C_drew ?_))); (case side4 => exact (Kd.R_reads' HO335.out).2.1); (case side5 => exact far_slice (IsS85.own_ne HI329.out HO335.out zb33)); rintro e w13 ⟨rfl, hi, hb, hk⟩; refine ⟨_, rfl, ?_⟩; replace HO335 := Aside0.mk (Kd.R_mono (Kd.R_keep (IsS85.apart (show IsS85 w _ g329 t326 x330001_1 x330002_1 from zb24) (zR HO335.out) zb33) hk (fun _ h => h.2)) (fun _ h => h.1)); replace HB := Aside0.mk hb; replace HI329 := Aside0.mk hi; (try clear hb); (try clear hb2); (try clear hk); (try clear hi)))
     go_roundg k1
     case measure => have := HK1.out; omega
     case rel => exact ⟨(js9), (wrap64 (x6_1 + 1)), (t337), (t338), zb49, zb7, H', ⟨by have := HK1.out; omega⟩, ⟨zb24⟩, ⟨zb19⟩⟩
    ·rw [if_neg c8] at H
     exact absurd H zb26
   ·rw [if_neg c6] at H
    have c6b0 : decide (x6_1 < t330) = false := decide_eq_false c6
    clear c6
    obtain rfl := Option.some.inj H
    go_wp2
    go_ret
    exact ⟨zb8, zb19⟩
set_option maxHeartbeats 8000000 in
set_option maxRecDepth 100000 in
theorem impl_Lines.calls (a0 : ByteArray) (r : List ByteArray) (w : World) (hGM : Glob FactM w) (h : impl_Lines.f a0 = some r) :
  Calls Tryz.prog 28 #[.string a0] w fun e w' => ∃ v0_ : Value, e = .returned (v0_) ∧ Kd.R Kd.string 9 w' w.heap.size (fun _ => True) v0_ r ∧ Below w.heap.size w w' := by
 have HB := Aside0.mk (Below.refl w.heap.size w)
 have HGM := Aside0.mk hGM
 clear hGM
 have H : ((strings_Split.f a0 (⟨#[10]⟩ : ByteArray)).bind fun t339 => (if 0 ≤ (wrap64 ((t339.length : Int) - 1)) then (if (wrap64 ((t339.length : Int) - 1)) < (t339.length : Int) then (if (rdOf ByteArray.empty t339 (wrap64 ((t339.length : Int) - 1))).toList = ([] : List UInt8) then (if (wrap64 ((t339.length : Int) - 1)) ≤ (t339.length : Int) then (some (t339.take ((wrap64 ((t339.length : Int) - 1)) : Int).toNat)) else (none)) else (some t339)) else (none)) else (none))) = some r := h
 clear h
 replace H := Option.bind_eq_some_iff.mp H
 obtain ⟨t339, A20, H⟩ := H
 try dsimp only at H
 have A2 := Aside0.mk A20
 clear A20
 obtain ⟨ji3, hji3⟩ : ∃ j_ : Int, (wrap64 ((t339.length : Int) - 1)) = j_ := ⟨_, rfl⟩
 replace H : (if 0 ≤ (ji3) then (if (ji3) < (t339.length : Int) then (if (rdOf ByteArray.empty t339 (ji3)).toList = ([] : List UInt8) then (if (ji3) ≤ (t339.length : Int) then (some (t339.take ((ji3) : Int).toNat)) else (none)) else (some t339)) else (none)) else (none)) = some r := by first | (rw [hji3] at H; exact H) | (simp only [hji3] at H ⊢; exact H)
 (try rw [hji3] at A2)
 have hji3w : (IntKind.i64.wrap ((t339.length : Int) - 1)) = ji3 := (i64_w _).trans hji3
 by_cases c4 : 0 ≤ (ji3)
 ·rw [if_pos c4] at H
  have c4b0 : decide (0 ≤ (ji3)) = true := decide_eq_true c4
  clear c4
  by_cases c5 : (ji3) < (t339.length : Int)
  ·rw [if_pos c5] at H
   have c5b0 : decide ((ji3) < (t339.length : Int)) = true := decide_eq_true c5
   clear c5
   by_cases c6 : (rdOf ByteArray.empty t339 (ji3)).toList = ([] : List UInt8)
   ·rw [if_pos c6] at H
    have c6b0 : ((rdOf ByteArray.empty t339 (ji3)).toList == ([] : List UInt8)) = true := beq_iff_eq.mpr c6
    have c6b1 : ((rdOf ByteArray.empty t339 (ji3)).toList != ([] : List UInt8)) = false := bne_eq_false_iff_eq.mpr c6
    clear c6
    by_cases c7 : (ji3) ≤ (t339.length : Int)
    ·rw [if_pos c7] at H
     have c7b0 := eq_true c7
     have c7b1 : decide ((ji3) ≤ (t339.length : Int)) = true := decide_eq_true c7
     clear c7
     obtain ⟨y343, hy343⟩ : ∃ y_ : List ByteArray, y_ = (t339.take ((ji3) : Int).toNat) := ⟨_, rfl⟩
     replace H : (some y343) = some r := by first | (rw [hy343]; with_reducible exact H) | (have H2_ := (Option.bind_some _ _).symm.trans H; rw [hy343]; with_reducible exact H2_) | (have H2_ := (Option.bind_some _ _).symm.trans H; with_reducible exact H2_) | with_reducible exact H | (rw [hy343]; exact H) | exact H
     have Ny343 := Aside0.mk hy343
     clear hy343
     obtain rfl := Option.some.inj H
     go_enter Tryz.func28, Tryz.ntmps28
     go_wp2_with (first | ((with_reducible refine gate_callee (f := 58) rfl ?_); refine goesL_ (some 5) rfl rfl Tryz.func58 zb13 rfl #[.string a0, .string (⟨#[10]⟩ : ByteArray)] rfl zb2 ?_; (with_reducible refine (strings_Split.calls a0 (⟨#[10]⟩ : ByteArray) t339 _ ?side1 A2.out).mono ?_); (case side1 => exact Glob.below HGM.out zb0); rintro e w8 ⟨v340, rfl, ho0, hb⟩; refine ⟨_, rfl, ?_⟩; have HO341 := Aside0.mk (Kd.R_lower ho0 (below_size zb0)); replace HB := Aside0.mk (below_step zb0 hb); (try clear hb); (try clear ho0); obtain ⟨Ao9, co9, eo9⟩ := Kd.R_slice HO341.out; subst eo9; have p342 : 0 ≤ ((ji3) : Int) := of_decide_eq_true zb5; have q342 : (ji3) < (t339.length : Int) := of_decide_eq_true zb5; obtain ⟨ad342, e342, hx342_0⟩ := Kd.at_string (Kd.R_reads' HO341.out).2.2 (ji3) p342 q342; cases e342; replace p342 := eq_true p342; replace q342 := eq_true q342; have q10 : ((ji3) : Int) ≤ ((t339.length : Int) : Int) := of_decide_eq_true zb5; obtain ⟨i010, hi010, _, hsz10, _⟩ := info_parts info9; have hcut10 := cut_to (P := Tryz.prog) 40 9 .i64 Tryz.underlying40 hi010 (some ad342) t339.length co9 (ji3) (of_decide_eq_true zb5) q10 (Kd.R_reads' HO341.out).2.1; have hr10 := Kd.R_take (m := ((ji3) : Int).toNat) HO341.out zb40; have hy10 : y343.length = ((ji3) : Int).toNat := (by rw [Ny343.out, List.length_take]; omega); rw [← Ny343.out] at hr10; rw [← hy10] at hr10 hcut10; clear hy10 hi010 hsz10 HO341; have HO345 := Aside0.mk hr10; clear hr10; replace q10 := eq_true q10))
     go_ret
     exact ⟨_, zb32, (zR HO345.out), zb0⟩
    ·rw [if_neg c7] at H
     exact absurd H zb26
   ·rw [if_neg c6] at H
    have c6b0 : ((rdOf ByteArray.empty t339 (ji3)).toList == ([] : List UInt8)) = false := beq_eq_false_iff_ne.mpr c6
    have c6b1 : ((rdOf ByteArray.empty t339 (ji3)).toList != ([] : List UInt8)) = true := bne_iff_ne.mpr c6
    obtain rfl := Option.some.inj H
    go_enter Tryz.func28, Tryz.ntmps28
    go_wp2_with (first | ((with_reducible refine gate_callee (f := 58) rfl ?_); refine goesL_ (some 5) rfl rfl Tryz.func58 zb13 rfl #[.string a0, .string (⟨#[10]⟩ : ByteArray)] rfl zb2 ?_; (with_reducible refine (strings_Split.calls a0 (⟨#[10]⟩ : ByteArray) t339 _ ?side1 A2.out).mono ?_); (case side1 => exact Glob.below HGM.out zb0); rintro e w11 ⟨v340, rfl, ho0, hb⟩; refine ⟨_, rfl, ?_⟩; have HO341 := Aside0.mk (Kd.R_lower ho0 (below_size zb0)); replace HB := Aside0.mk (below_step zb0 hb); (try clear hb); (try clear ho0); obtain ⟨Ao12, co12, eo12⟩ := Kd.R_slice HO341.out; subst eo12; have p342 : 0 ≤ ((ji3) : Int) := of_decide_eq_true zb5; have q342 : (ji3) < (t339.length : Int) := of_decide_eq_true zb5; obtain ⟨ad342, e342, hx342_0⟩ := Kd.at_string (Kd.R_reads' HO341.out).2.2 (ji3) p342 q342; cases e342; replace p342 := eq_true p342; replace q342 := eq_true q342))
    go_ret
    exact ⟨_, zb32, (zR HO341.out), zb0⟩
  ·rw [if_neg c5] at H
   exact absurd H zb26
 ·rw [if_neg c4] at H
  exact absurd H zb26
set_option maxHeartbeats 8000000 in
set_option maxRecDepth 100000 in
theorem spec_DrawWords.calls (k : Nat) (A0 : Option Addr) (c0 : Nat) (l0 : List Int) (r : ByteArray) (w : World) (hr0 : Kd.C (Kd.int .u8) w A0 l0.length l0) (hc0 : l0.length ≤ c0) (h : spec_DrawWords.f k l0 = some r) :
  Calls Tryz.prog 29 #[.slice A0 l0.length c0] w fun e w' => e = .returned (.string r) ∧ Below w.heap.size w w' := by
 have HR0 := Aside0.mk hr0
 have HC0 := Aside0.mk hc0
 clear hr0 hc0
 have HB := Aside0.mk (Below.refl w.heap.size w)
 have H : ((spec_l01New.f k l0).bind fun bt346 => ((spec_l01Below.f bt346.1 bt346.2.1 bt346.2.2 6).bind fun bt350 => (spec_DrawWords.l0 k (⟨#[]⟩ : ByteArray) bt350.1 0 bt346.1 bt350.2.1 bt350.2.2))) = some r := h
 clear h
 replace H := Option.bind_eq_some_iff.mp H
 obtain ⟨⟨t346, t347, t348⟩, A20, H⟩ := H
 try dsimp only at H
 have A2 := Aside0.mk A20
 clear A20
 replace H := Option.bind_eq_some_iff.mp H
 obtain ⟨⟨t350, t351, t352⟩, A30, H⟩ := H
 try dsimp only at H
 have A3 := Aside0.mk A30
 clear A30
 have H' := Aside0.mk H
 clear H
 go_enter Tryz.func29, Tryz.ntmps29
 go_wp2_with (first | ((with_reducible refine gate_callee (f := 54) rfl ?_); refine goesL_ (some 8) rfl rfl Tryz.func54 zb13 rfl #[.slice A0 l0.length c0] rfl zb2 ?_; (with_reducible refine (spec_l01New.calls k _ _ l0 t346 t347 t348 w _ ?side1 ?side2 ?side3 A2.out).mono ?_); (case side1 => exact zb0); (case side2 => exact HR0.out); (case side3 => exact HC0.out); rintro e w4 ⟨g349, rfl, hi, hb, hb2⟩; refine ⟨_, rfl, ?_⟩; replace HB := Aside0.mk hb; have HI349 := Aside0.mk hi; (try clear hb); (try clear hb2); (try clear hk); (try clear hi)) | ((with_reducible refine gate_callee (f := 79) rfl ?_); refine goesL_ (some 10) rfl rfl Tryz.func79 zb13 rfl #[.pointer (some ⟨g349, 0, none⟩), .int .i64 6] rfl zb2 ?_; (with_reducible refine (spec_l01Below.calls g349 t346 t347 t348 6 t350 t351 t352 w _ ?side1 ?side2 A3.out).mono ?_); (case side1 => exact zb23); (case side2 => exact zb18); rintro e w5 ⟨rfl, hi, hb, hk⟩; refine ⟨_, rfl, ?_⟩; replace HB := Aside0.mk hb; replace HI349 := Aside0.mk hi; (try clear hb); (try clear hb2); (try clear hk); (try clear hi)))
 go_loopg [4, 6] k (fun kq v4 v6 w' => ∃ (x4_1 : ByteArray) (x6_1 : Int) (x350001_1 : Int) (x350002_1 : Int), v4 = .string x4_1 ∧ v6 = .int .i64 x6_1 ∧ Aside0 (spec_DrawWords.l0 kq x4_1 t350 x6_1 t346 x350001_1 x350002_1 = some r) ∧ Aside0 (kq ≤ k) ∧ Aside0 (IsS85 w w' g349 t346 x350001_1 x350002_1) ∧ Aside0 (Below w.heap.size w w'))
 case atStart => exact ⟨((⟨#[]⟩ : ByteArray)), (0), (t351), (t352), zb7, zb7, H', ⟨Nat.le_refl _⟩, ⟨zb23⟩, ⟨zb18⟩⟩
 case round =>
  clear H'
  try clear c2
  try clear p2
  try clear c5
  obtain ⟨x4_1, x6_1, x350001_1, x350002_1, rfl, rfl, HA, HK1, HI349, HB⟩ := hrel
  cases gk with
  | zero => exact absurd HA.out (by simp [spec_DrawWords.l0])
  | succ k1 =>
   have H := HA.out
   clear HA
   simp only [spec_DrawWords.l0] at H
   by_cases c6 : x6_1 < t350
   ·rw [if_pos c6] at H
    have c6b0 : decide (x6_1 < t350) = true := decide_eq_true c6
    clear c6
    obtain ⟨y353, hy353⟩ : ∃ y_ : List ByteArray, y_ = (([(⟨#[97]⟩ : ByteArray), (⟨#[32]⟩ : ByteArray), (⟨#[98, 99]⟩ : ByteArray), (⟨#[32]⟩ : ByteArray), (⟨#[]⟩ : ByteArray)] : List ByteArray)) := ⟨_, rfl⟩
    first | replace H := hb1 H (show (spec_l01Pick.f t346 x350001_1 x350002_1 y353) = _ from (by rw [hy353])) | replace H := hb1 (hb2 H) (show (spec_l01Pick.f t346 x350001_1 x350002_1 y353) = _ from (by rw [hy353]))
    have Ny353 := Aside0.mk hy353
    clear hy353
    replace H := Option.bind_eq_some_iff.mp H
    obtain ⟨⟨t356, t357, t358⟩, A70, H⟩ := H
    try dsimp only at H
    have A7 := Aside0.mk A70
    clear A70
    by_cases c8 : x4_1.size + t356.size ≤ 9223372036854775807
    ·rw [if_pos c8] at H
     have c8b0 := eq_true c8
     have c8b1 : decide (x4_1.size + t356.size ≤ 9223372036854775807) = true := decide_eq_true c8
     try have c8b2 : (9223372036854775807 < x4_1.size + t356.size) = False := eq_false (Nat.not_lt.2 c8)
     obtain ⟨js9, hjs9⟩ : ∃ j_ : ByteArray, (x4_1 ++ t356) = j_ := ⟨_, rfl⟩
     replace H : (spec_DrawWords.l0 k1 js9 t350 (wrap64 (x6_1 + 1)) t346 t357 t358) = some r := by first | (rw [hjs9] at H; exact H) | (simp only [hjs9] at H ⊢; exact H)
     (try rw [hjs9] at A7)
     have H' := Aside0.mk H
     clear H
     go_wp2_with (first | ((with_reducible refine gate_dst (N := 18) rfl ?_); refine Kd.R_lit Kd.string _ 9 ?hg (N := 18) ?hd (xs := ([(⟨#[97]⟩ : ByteArray), (⟨#[32]⟩ : ByteArray), (⟨#[98, 99]⟩ : ByteArray), (⟨#[32]⟩ : ByteArray), (⟨#[]⟩ : ByteArray)] : List ByteArray)) (inner := [.string (⟨#[97]⟩ : ByteArray), .string (⟨#[32]⟩ : ByteArray), .string (⟨#[98, 99]⟩ : ByteArray), .string (⟨#[32]⟩ : ByteArray), .string (⟨#[]⟩ : ByteArray)]) (ok := fun _ => True) (okp := fun _ => True) ?hr ?hp (fun _ hk => hk) trivial (Below.refl _ _) (Nat.le_refl _) zb26 ?_; (case hd => rfl); (case hg => rfl); (case hr => exact zb15); (case hp => exact zb16); intro v354 w10 ho11 hb hg_ hnew_; clear hg_ hnew_; (first | rw [← Ny353.out] at ho11 | (simp only [Int.reduceToNat] at ho11; rw [← Ny353.out] at ho11)); have HO355 := Aside0.mk (Kd.R_lower ho11 (below_size zb18)); replace HB := Aside0.mk (below_step zb18 hb); replace HI349 := Aside0.mk (IsS85.below zb23 hb); clear hb ho11; obtain ⟨Ao12, co12, eo12⟩ := Kd.R_slice HO355.out; subst eo12) | ((with_reducible refine gate_callee (f := 80) rfl ?_); refine goesL_ (some 19) rfl rfl Tryz.func80 zb13 rfl #[.pointer (some ⟨g349, 0, none⟩), .slice Ao12 y353.length co12] rfl zb2 ?_; (with_reducible refine (spec_l01Pick.calls g349 t346 x350001_1 x350002_1 _ _ y353 t356 t357 t358 w _ ?side1 ?side2 ?side3 ?side4 ?side5 A7.out).mono ?_); (case side1 => exact zb23); (case side2 => exact zb18); (case side3 => repeat (first | exact (Kd.R_reads' HO355.out).2.2 | (with_reducible refine Kd.C_alloc ?_ _) | (with_reducible refine Kd.C_drewN ?_ _) | (with_reducible refine Kd.C_drew ?_))); (case side4 => exact (Kd.R_reads' HO355.out).2.1); (case side5 => exact far_slice (IsS85.own_ne HI349.out HO355.out zb33)); rintro e w13 ⟨rfl, hi, hb, hk⟩; refine ⟨_, rfl, ?_⟩; replace HO355 := Aside0.mk (Kd.R_mono (Kd.R_keep (IsS85.apart (show IsS85 w _ g349 t346 x350001_1 x350002_1 from zb23) (zR HO355.out) zb33) hk (fun _ h => h.2)) (fun _ h => h.1)); replace HB := Aside0.mk hb; replace HI349 := Aside0.mk hi; (try clear hb); (try clear hb2); (try clear hk); (try clear hi)))
     go_roundg k1
     case measure => have := HK1.out; omega
     case rel => exact ⟨(js9), (wrap64 (x6_1 + 1)), (t357), (t358), zb49, zb7, H', ⟨by have := HK1.out; omega⟩, ⟨zb23⟩, ⟨zb18⟩⟩
    ·rw [if_neg c8] at H
     exact absurd H zb26
   ·rw [if_neg c6] at H
    have c6b0 : decide (x6_1 < t350) = false := decide_eq_false c6
    clear c6
    obtain rfl := Option.some.inj H
    go_wp2
    go_ret
    exact ⟨zb8, zb18⟩
set_option maxHeartbeats 8000000 in
set_option maxRecDepth 100000 in
theorem spec_DrawIndent.calls (k : Nat) (A0 : Option Addr) (c0 : Nat) (l0 : List Int) (r : ByteArray) (w : World) (hr0 : Kd.C (Kd.int .u8) w A0 l0.length l0) (hc0 : l0.length ≤ c0) (h : spec_DrawIndent.f k l0 = some r) :
  Calls Tryz.prog 31 #[.slice A0 l0.length c0] w fun e w' => e = .returned (.string r) ∧ Below w.heap.size w w' := by
 have HR0 := Aside0.mk hr0
 have HC0 := Aside0.mk hc0
 clear hr0 hc0
 have HB := Aside0.mk (Below.refl w.heap.size w)
 have H : ((spec_l01New.f k l0).bind fun bt362 => ((spec_l01Pick.f bt362.1 bt362.2.1 bt362.2.2 (([(⟨#[]⟩ : ByteArray), (⟨#[32]⟩ : ByteArray), (⟨#[32, 32]⟩ : ByteArray), (⟨#[32, 32, 32, 32]⟩ : ByteArray)] : List ByteArray))).bind fun bt369 => ((spec_l01Pick.f bt362.1 bt369.2.1 bt369.2.2 (([(⟨#[]⟩ : ByteArray), (⟨#[97]⟩ : ByteArray), (⟨#[97, 32, 98]⟩ : ByteArray), (⟨#[9]⟩ : ByteArray)] : List ByteArray))).bind fun bt375 => (if bt369.1.size + bt375.1.size ≤ 9223372036854775807 then (some (bt369.1 ++ bt375.1)) else (none))))) = some r := h
 clear h
 replace H := Option.bind_eq_some_iff.mp H
 obtain ⟨⟨t362, t363, t364⟩, A20, H⟩ := H
 try dsimp only at H
 have A2 := Aside0.mk A20
 clear A20
 obtain ⟨y366, hy366⟩ : ∃ y_ : List ByteArray, y_ = (([(⟨#[]⟩ : ByteArray), (⟨#[32]⟩ : ByteArray), (⟨#[32, 32]⟩ : ByteArray), (⟨#[32, 32, 32, 32]⟩ : ByteArray)] : List ByteArray)) := ⟨_, rfl⟩
 first | replace H := hb1 H (show (spec_l01Pick.f t362 t363 t364 y366) = _ from (by rw [hy366])) | replace H := hb1 (hb2 H) (show (spec_l01Pick.f t362 t363 t364 y366) = _ from (by rw [hy366]))
 have Ny366 := Aside0.mk hy366
 clear hy366
 replace H := Option.bind_eq_some_iff.mp H
 obtain ⟨⟨t369, t370, t371⟩, A30, H⟩ := H
 try dsimp only at H
 have A3 := Aside0.mk A30
 clear A30
 obtain ⟨y372, hy372⟩ : ∃ y_ : List ByteArray, y_ = (([(⟨#[]⟩ : ByteArray), (⟨#[97]⟩ : ByteArray), (⟨#[97, 32, 98]⟩ : ByteArray), (⟨#[9]⟩ : ByteArray)] : List ByteArray)) := ⟨_, rfl⟩
 first | replace H := hb1 H (show (spec_l01Pick.f t362 t370 t371 y372) = _ from (by rw [hy372])) | replace H := hb1 (hb2 H) (show (spec_l01Pick.f t362 t370 t371 y372) = _ from (by rw [hy372]))
 have Ny372 := Aside0.mk hy372
 clear hy372
 replace H := Option.bind_eq_some_iff.mp H
 obtain ⟨⟨t375, t376, t377⟩, A40, H⟩ := H
 try dsimp only at H
 have A4 := Aside0.mk A40
 clear A40
 by_cases c5 : t369.size + t375.size ≤ 9223372036854775807
 ·rw [if_pos c5] at H
  have c5b0 := eq_true c5
  have c5b1 : decide (t369.size + t375.size ≤ 9223372036854775807) = true := decide_eq_true c5
  try have c5b2 : (9223372036854775807 < t369.size + t375.size) = False := eq_false (Nat.not_lt.2 c5)
  obtain ⟨js6, hjs6⟩ : ∃ j_ : ByteArray, (t369 ++ t375) = j_ := ⟨_, rfl⟩
  replace H : (some js6) = some r := by first | (rw [hjs6] at H; exact H) | (simp only [hjs6] at H ⊢; exact H)
  (try rw [hjs6] at A2)
  (try rw [hjs6] at A3)
  (try rw [hjs6] at A4)
  obtain rfl := Option.some.inj H
  go_enter Tryz.func31, Tryz.ntmps31
  go_wp2_with (first | ((with_reducible refine gate_callee (f := 54) rfl ?_); refine goesL_ (some 5) rfl rfl Tryz.func54 zb13 rfl #[.slice A0 l0.length c0] rfl zb2 ?_; (with_reducible refine (spec_l01New.calls k _ _ l0 t362 t363 t364 w _ ?side1 ?side2 ?side3 A2.out).mono ?_); (case side1 => exact zb0); (case side2 => exact HR0.out); (case side3 => exact HC0.out); rintro e w7 ⟨g365, rfl, hi, hb, hb2⟩; refine ⟨_, rfl, ?_⟩; replace HB := Aside0.mk hb; have HI365 := Aside0.mk hi; (try clear hb); (try clear hb2); (try clear hk); (try clear hi)) | ((with_reducible refine gate_dst (N := 7) rfl ?_); refine Kd.R_lit Kd.string _ 9 ?hg (N := 7) ?hd (xs := ([(⟨#[]⟩ : ByteArray), (⟨#[32]⟩ : ByteArray), (⟨#[32, 32]⟩ : ByteArray), (⟨#[32, 32, 32, 32]⟩ : ByteArray)] : List ByteArray)) (inner := [.string (⟨#[]⟩ : ByteArray), .string (⟨#[32]⟩ : ByteArray), .string (⟨#[32, 32]⟩ : ByteArray), .string (⟨#[32, 32, 32, 32]⟩ : ByteArray)]) (ok := fun _ => True) (okp := fun _ => True) ?hr ?hp (fun _ hk => hk) trivial (Below.refl _ _) (Nat.le_refl _) zb26 ?_; (case hd => rfl); (case hg => rfl); (case hr => exact zb15); (case hp => exact zb16); intro v367 w8 ho9 hb hg_ hnew_; clear hg_ hnew_; (first | rw [← Ny366.out] at ho9 | (simp only [Int.reduceToNat] at ho9; rw [← Ny366.out] at ho9)); have HO368 := Aside0.mk (Kd.R_lower ho9 (below_size zb17)); replace HB := Aside0.mk (below_step zb17 hb); replace HI365 := Aside0.mk (IsS85.below zb22 hb); clear hb ho9; obtain ⟨Ao10, co10, eo10⟩ := Kd.R_slice HO368.out; subst eo10) | ((with_reducible refine gate_callee (f := 80) rfl ?_); refine goesL_ (some 8) rfl rfl Tryz.func80 zb13 rfl #[.pointer (some ⟨g365, 0, none⟩), .slice Ao10 y366.length co10] rfl zb2 ?_; (with_reducible refine (spec_l01Pick.calls g365 t362 t363 t364 _ _ y366 t369 t370 t371 w _ ?side1 ?side2 ?side3 ?side4 ?side5 A3.out).mono ?_); (case side1 => exact zb22); (case side2 => exact zb17); (case side3 => repeat (first | exact (Kd.R_reads' HO368.out).2.2 | (with_reducible refine Kd.C_alloc ?_ _) | (with_reducible refine Kd.C_drewN ?_ _) | (with_reducible refine Kd.C_drew ?_))); (case side4 => exact (Kd.R_reads' HO368.out).2.1); (case side5 => exact far_slice (IsS85.own_ne HI365.out HO368.out zb33)); rintro e w11 ⟨rfl, hi, hb, hk⟩; refine ⟨_, rfl, ?_⟩; replace HO368 := Aside0.mk (Kd.R_mono (Kd.R_keep (IsS85.apart (show IsS85 w _ g365 t362 t363 t364 from zb22) (zR HO368.out) zb33) hk (fun _ h => h.2)) (fun _ h => h.1)); replace HB := Aside0.mk hb; replace HI365 := Aside0.mk hi; (try clear hb); (try clear hb2); (try clear hk); (try clear hi)) | ((with_reducible refine gate_dst (N := 10) rfl ?_); refine Kd.R_lit Kd.string _ 9 ?hg (N := 10) ?hd (xs := ([(⟨#[]⟩ : ByteArray), (⟨#[97]⟩ : ByteArray), (⟨#[97, 32, 98]⟩ : ByteArray), (⟨#[9]⟩ : ByteArray)] : List ByteArray)) (inner := [.string (⟨#[]⟩ : ByteArray), .string (⟨#[97]⟩ : ByteArray), .string (⟨#[97, 32, 98]⟩ : ByteArray), .string (⟨#[9]⟩ : ByteArray)]) (ok := fun _ => True) (okp := fun _ => True) ?hr ?hp (fun _ hk => hk) trivial (Below.refl _ _) (Nat.le_refl _) zb26 ?_; (case hd => rfl); (case hg => rfl); (case hr => exact zb15); (case hp => exact zb16); intro v373 w12 ho13 hb hg_ hnew_; clear hg_ hnew_; (first | rw [← Ny372.out] at ho13 | (simp only [Int.reduceToNat] at ho13; rw [← Ny372.out] at ho13)); have HO374 := Aside0.mk (Kd.R_lower (Kd.R_new' ho13 (Kd.R_lt (zR HO368.out))) (below_size zb17)); replace HO368 := Aside0.mk (Kd.R_elder' (zR HO368.out) (Kd.R_base ho13) hb); replace HB := Aside0.mk (below_step zb17 hb); replace HI365 := Aside0.mk (IsS85.below zb22 hb); clear hb ho13; obtain ⟨Ao14, co14, eo14⟩ := Kd.R_slice HO374.out; subst eo14) | ((with_reducible refine gate_callee (f := 80) rfl ?_); refine goesL_ (some 11) rfl rfl Tryz.func80 zb13 rfl #[.pointer (some ⟨g365, 0, none⟩), .slice Ao14 y372.length co14] rfl zb2 ?_; (with_reducible refine (spec_l01Pick.calls g365 t362 t370 t371 _ _ y372 t375 t376 t377 w _ ?side1 ?side2 ?side3 ?side4 ?side5 A4.out).mono ?_); (case side1 => exact zb22); (case side2 => exact zb17); (case side3 => repeat (first | exact (Kd.R_reads' HO374.out).2.2 | (with_reducible refine Kd.C_alloc ?_ _) | (with_reducible refine Kd.C_drewN ?_ _) | (with_reducible refine Kd.C_drew ?_))); (case side4 => exact (Kd.R_reads' HO374.out).2.1); (case side5 => exact far_slice (IsS85.own_ne HI365.out HO374.out zb33)); rintro e w15 ⟨rfl, hi, hb, hk⟩; refine ⟨_, rfl, ?_⟩; replace HO368 := Aside0.mk (Kd.R_mono (Kd.R_keep (IsS85.apart (show IsS85 w _ g365 t362 t370 t371 from zb22) (zR HO368.out) zb33) hk (fun _ h => h.2)) (fun _ h => h.1)); replace HO374 := Aside0.mk (Kd.R_mono (Kd.R_keep (IsS85.apart (show IsS85 w _ g365 t362 t370 t371 from zb22) (zR HO374.out) zb33) hk (fun _ h => h.2)) (fun _ h => h.1)); replace HB := Aside0.mk hb; replace HI365 := Aside0.mk hi; (try clear hb); (try clear hb2); (try clear hk); (try clear hi)))
  go_ret
  exact ⟨zb45, zb17⟩
 ·rw [if_neg c5] at H
  exact absurd H zb26
end Go.Proofs.YtbfbomcfmgdpkaaGreatDoor.G

end
