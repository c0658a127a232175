/- A part of the proof that the law FnExactOrder answers true at every input that its row speaks of. Conditions: the row's own. -/
import Derived.Test.YtieohddolkeegaaGreatDoorOpZ
import Derived.Test.YtieohddolkeegaaGreatDoorMFnExactOrder0
import Derived.Test.YtieohddolkeegaaGreatDoorKFnExactOrder0
import Derived.Test.YtieohddolkeegaaGreatDoorVMore
import Derived.Lib.Strings
import Derived.Laws.BitsLemmas
import Derived.Lib.ItoaNum
import Derived.Lib.SplitLaws
import Derived.Lib.Bytealg
section
namespace Go.Proofs.YtieohddolkeegaaGreatDoor.G
open Go.RowKit Go.Proofs.YtieohddolkeegaaGreatDoorW.PrintWords Go.Proofs.YtieohddolkeegaaGreatDoorW.PrintLast Go.Proofs.YtieohddolkeegaaGreatDoorW.PrintMore
attribute [local go_sem] max2_int min2_int max_two min_two max_three min_three max_four min_four
attribute [local go_sem high] Go.Proofs.YtieohddolkeegaaGreatDoor.G.str_gtr Go.Proofs.YtieohddolkeegaaGreatDoor.G.str_leq Go.Proofs.YtieohddolkeegaaGreatDoor.G.str_geq
set_option linter.unusedVariables false
set_option linter.unusedSimpArgs false
set_option maxHeartbeats 8000000 in
set_option maxRecDepth 100000 in
theorem laws_toPackS.calls (k : Nat) (A0 : Option Addr) (c0 : Nat) (l0 : List (S139)) (r : List (S47)) (w : World) (hr0 : Kd.C k139 w A0 l0.length l0) (hc0 : l0.length ≤ c0) (h : laws_toPackS.f k l0 = some r) :
  Calls Tryz.prog 80 #[.slice A0 l0.length c0] w fun e w' => ∃ v0_ : Value, e = .returned (v0_) ∧ Kd.S k47 47 w' w.heap.size (fun _ => True) v0_ r ∧ Below w.heap.size w w' := by
 have hu139 := Tryz.underlying139
 have hu47 := Tryz.underlying47
 have HR0 := am hr0
 have HC0 := am hc0
 clear hr0 hc0
 have HB := am (Below.refl w.heap.size w)
 have H : (if 0 ≤ (l0.length : Int) then (if ((l0.length : Int) : Int).toNat ≤ 2706490160679 then (laws_toPackS.l0 k l0 (List.replicate ((l0.length : Int) : Int).toNat z47) 0) else (none)) else (none)) = some r := h
 clear h
 by_cases c2 : 0 ≤ (l0.length : Int)
 ·rw [if_pos c2] at H
  have c2b0 := eq_true c2
  have c2b1 : decide (0 ≤ (l0.length : Int)) = true := decide_eq_true c2
  clear c2
  by_cases c3 : ((l0.length : Int) : Int).toNat ≤ 2706490160679
  ·rw [if_pos c3] at H
   have c3b0 := eq_true c3
   have c3b1 : decide (((l0.length : Int) : Int).toNat ≤ 2706490160679) = true := decide_eq_true c3
   clear c3
   obtain ⟨y422, hy422⟩ : ∃ y_ : List (S47), y_ = (List.replicate ((l0.length : Int) : Int).toNat z47) := ⟨_, rfl⟩
   replace H : (laws_toPackS.l0 k l0 y422 0) = some r := by first | (rw [hy422]; with_reducible exact H) | (have H2_ := (Option.bind_some _ _).symm.trans H; rw [hy422]; with_reducible exact H2_) | (have H2_ := (Option.bind_some _ _).symm.trans H; with_reducible exact H2_) | with_reducible exact H | (rw [hy422]; exact H) | exact H
   have Ny422 := am hy422
   clear hy422
   have H' := am H
   clear H
   go_enter Tryz.func80, Tryz.ntmps80
   go_wp2_with (first | ((with_reducible refine gate_dst (N := 7) rfl ?_); refine Kd.S_make k47 _ 47 rfl (N := 7) rfl 37 _ _ rfl (l0.length : Int) rfl rfl Tryz.underlying37 (.agg #[(.string ⟨#[]⟩), (.string ⟨#[]⟩), (.string ⟨#[]⟩), (.slice none 0 0), (.bool false), (.slice none 0 0)]) 104 info47 rfl zb36 (by omega) z47 (ok := fun _ => True) (okp := fun _ => True) (k47_mkM _ _ _ z47 (Kd.R_nil _ _ _ _ _) (Kd.R_nil _ _ _ _ _)) (fun _ hk => hk) trivial (of_decide_eq_true zb6) (Nat.le_trans (Nat.mul_le_mul_right _ (of_decide_eq_true zb6 : (l0.length : Int).toNat ≤ 2706490160679)) (by omega)) (Below.refl _ _) (Nat.le_refl _) ?_; intro v423 w4 ho5 hb hg_ hnew_; clear hg_ hnew_; (first | rw [← Ny422.out] at ho5 | (simp only [Int.reduceToNat] at ho5; rw [← Ny422.out] at ho5)); have HO424 := am (Kd.S_lower ho5 (below_size zb0)); replace HB := am (below_step zb0 hb); clear hb ho5))
   go_loopg [4] k (fun kq v4 w' => ∃ (x3_1 : List (S47)) (x4_1 : Int), v4 = .int .i64 x4_1 ∧ Aside0 (laws_toPackS.l0 kq l0 x3_1 x4_1 = some r) ∧ Aside0 (kq ≤ k) ∧ Aside0 (Kd.S k47 47 w' w.heap.size (fun _ => True) v423 x3_1) ∧ Aside0 (Below w.heap.size w w'))
   case atStart => exact ⟨(y422), (0), zb3, H', ⟨Nat.le_refl _⟩, ⟨(by (with_reducible repeat (first | apply Kd.S_alloc | apply Kd.S_drewN | apply Kd.S_drew)); exact HO424.out)⟩, ⟨zb0⟩⟩
   case round =>
    clear H'
    try clear c2
    try clear c2b0
    try clear c2b1
    try clear p2
    try clear c3
    try clear c3b0
    try clear c3b1
    obtain ⟨x3_1, x4_1, rfl, HA, HK1, HO_3, HB⟩ := hrel
    cases gk with
    | zero => exact absurd HA.out (by simp [laws_toPackS.l0])
    | succ k1 =>
     have H := HA.out
     clear HA
     simp only [laws_toPackS.l0] at H
     by_cases c6 : x4_1 < (l0.length : Int)
     ·rw [if_pos c6] at H
      have c6b0 : decide (x4_1 < (l0.length : Int)) = true := decide_eq_true c6
      clear c6
      by_cases c7 : 0 ≤ x4_1
      ·rw [if_pos c7] at H
       have c7b0 : decide (0 ≤ x4_1) = true := decide_eq_true c7
       clear c7
       replace H := Option.bind_eq_some_iff.mp H
       obtain ⟨⟨t426, t427, t428, t429, t432, t433⟩, A80, H⟩ := H
       try dsimp only at H
       have A8 := am A80
       clear A80
       by_cases c9 : x4_1 < (x3_1.length : Int)
       ·rw [if_pos c9] at H
        have c9b0 : decide (x4_1 < (x3_1.length : Int)) = true := decide_eq_true c9
        clear c9
        obtain ⟨y436, hy436⟩ : ∃ y_ : List (S47), y_ = (x3_1.set (x4_1 : Int).toNat (⟨t426, t427, t428, t429, t432, t433⟩ : S47)) := ⟨_, rfl⟩
        replace H : (laws_toPackS.l0 k1 l0 y436 (wrap64 (x4_1 + 1))) = some r := by first | (rw [hy436]; with_reducible exact H) | (have H2_ := (Option.bind_some _ _).symm.trans H; rw [hy436]; with_reducible exact H2_) | (have H2_ := (Option.bind_some _ _).symm.trans H; with_reducible exact H2_) | with_reducible exact H | (rw [hy436]; exact H) | exact H
        have Ny436 := am hy436
        clear hy436
        have H' := am H
        clear H
        have p425 : 0 ≤ (x4_1 : Int) := of_decide_eq_true zb6
        have q425 : x4_1 < (l0.length : Int) := of_decide_eq_true zb6
        obtain ⟨ad425, A425_3, c425_3, A425_5, c425_5, e425, hx425_0, hx425_1, hx425_2, hx425_3, hx425_4, hx425_5, hl425_3, hi425_3, hl425_5, hi425_5⟩ := at_T139 HR0.out x4_1 p425 q425
        cases e425
        replace hx425_0 := (HB.out.cell (World.block_lt_of_cell? w _ hx425_0)).trans hx425_0
        replace hx425_1 := (HB.out.cell (World.block_lt_of_cell? w _ hx425_1)).trans hx425_1
        replace hx425_2 := (HB.out.cell (World.block_lt_of_cell? w _ hx425_2)).trans hx425_2
        replace hx425_3 := (HB.out.cell (World.block_lt_of_cell? w _ hx425_3)).trans hx425_3
        replace hx425_4 := (HB.out.cell (World.block_lt_of_cell? w _ hx425_4)).trans hx425_4
        replace hx425_5 := (HB.out.cell (World.block_lt_of_cell? w _ hx425_5)).trans hx425_5
        have HR425_3 := am hi425_3
        have HC425_3 := am hl425_3
        clear hi425_3 hl425_3
        have HR425_5 := am hi425_5
        have HC425_5 := am hl425_5
        clear hi425_5 hl425_5
        replace p425 := eq_true p425
        replace q425 := eq_true q425
        go_wp2_with (first | ((with_reducible refine gate_callee (f := 124) rfl ?_); refine goesL_ (some 20) rfl rfl Tryz.func124 zb17 rfl #[.agg #[.string ((rd_T139 l0 x4_1).f0), .string ((rd_T139 l0 x4_1).f1), .string ((rd_T139 l0 x4_1).f2), .slice A425_3 ((rd_T139 l0 x4_1).f3).length c425_3, .bool ((rd_T139 l0 x4_1).f4), .slice A425_5 ((rd_T139 l0 x4_1).f5).length c425_5]] rfl zb4 ?_; (with_reducible refine (laws_toPack.calls k1 ((rd_T139 l0 x4_1).f0) ((rd_T139 l0 x4_1).f1) ((rd_T139 l0 x4_1).f2) _ _ ((rd_T139 l0 x4_1).f3) ((rd_T139 l0 x4_1).f4) _ _ ((rd_T139 l0 x4_1).f5) t426 t427 t428 t429 t432 t433 _ ?side1 ?side2 ?side3 ?side4 A8.out).mono ?_); (case side1 => repeat (first | exact (Kd.C_below HR425_3.out HB.out) | (with_reducible refine Kd.C_alloc ?_ _) | (with_reducible refine Kd.C_drewN ?_ _) | (with_reducible refine Kd.C_drew ?_))); (case side2 => exact HC425_3.out); (case side3 => repeat (first | exact (Kd.C_below HR425_5.out HB.out) | (with_reducible refine Kd.C_alloc ?_ _) | (with_reducible refine Kd.C_drewN ?_ _) | (with_reducible refine Kd.C_drew ?_))); (case side4 => exact HC425_5.out); rintro e w11 ⟨v430, v434, rfl, ho0, ho1, hb⟩; have hs_v430 := fun (W_ : World) (a_ : Addr) (m_ : Mode) => run_store Tryz.prog W_ a_ v430 m_ (by obtain ⟨_, _, e_⟩ := Kd.R_slice ho0; rw [e_]; rfl); have hs_v434 := fun (W_ : World) (a_ : Addr) (m_ : Mode) => run_store Tryz.prog W_ a_ v434 m_ (by obtain ⟨_, _, e_⟩ := Kd.R_slice ho1; rw [e_]; rfl); refine ⟨_, rfl, ?_⟩; replace HO_3 := am (Kd.S_mono (Kd.S_told (Kd.S_told (Kd.S_old zb34 hb) (Kd.R_base ho0)) (Kd.R_base ho1)) (fun _ h_ => h_.1)); have HO431 := am (Kd.R_lower ho0 (below_size zb0)); have HO435 := am (Kd.R_lower ho1 (below_size zb0)); replace HB := am (below_step zb0 hb); (try clear hb); (try clear ho0); (try clear ho1); have p10 : 0 ≤ (x4_1 : Int) := of_decide_eq_true zb6; have q10 : (x4_1 : Int) < ((x3_1.length : Int) : Int) := of_decide_eq_true zb6; obtain ⟨go10, co10, eo10, gb10, gl10, cl10, HG10⟩ := Kd.S_form HO_3.out (by omega); (first | cases eo10 | (injection eo10 with ea_ en_ ec_; (first | subst ea_ | (injection ea_ with ea_; subst ea_)); subst ec_; clear en_)); have GB10 := am gb10; have GG10 := am HG10; clear gb10 gl10 HG10; obtain ⟨_, ce10, hcl10, hM10, hcc10, hfr10, _, _⟩ := Kd.S_elem HO_3.out z47 (x4_1 : Int) p10 q10; obtain ⟨ve10_3, ve10_5, rfl, ge10_3, ge10_5⟩ := k47_openM hM10; have hx10_0 : w11.cell? ⟨go10, (x4_1 : Int).toNat * 6, none⟩ = some (.string ((rd_T47 x3_1 x4_1).f0)) := hcc10 0 _ rfl; have hx10_1 : w11.cell? ⟨go10, (x4_1 : Int).toNat * 6 + 1, none⟩ = some (.string ((rd_T47 x3_1 x4_1).f1)) := hcc10 1 _ rfl; have hx10_2 : w11.cell? ⟨go10, (x4_1 : Int).toNat * 6 + 2, none⟩ = some (.string ((rd_T47 x3_1 x4_1).f2)) := hcc10 2 _ rfl; have hx10_3 : w11.cell? ⟨go10, (x4_1 : Int).toNat * 6 + 3, none⟩ = some (ve10_3) := hcc10 3 _ rfl; have hx10_4 : w11.cell? ⟨go10, (x4_1 : Int).toNat * 6 + 4, none⟩ = some (.bool ((rd_T47 x3_1 x4_1).f4)) := hcc10 4 _ rfl; have hx10_5 : w11.cell? ⟨go10, (x4_1 : Int).toNat * 6 + 5, none⟩ = some (ve10_5) := hcc10 5 _ rfl; have hf10_0 : w11.frozen? ⟨go10, (x4_1 : Int).toNat * 6, none⟩ = false := hfr10 0; have hf10_1 : w11.frozen? ⟨go10, (x4_1 : Int).toNat * 6 + 1, none⟩ = false := hfr10 1; have hf10_2 : w11.frozen? ⟨go10, (x4_1 : Int).toNat * 6 + 2, none⟩ = false := hfr10 2; have hf10_3 : w11.frozen? ⟨go10, (x4_1 : Int).toNat * 6 + 3, none⟩ = false := hfr10 3; have hf10_4 : w11.frozen? ⟨go10, (x4_1 : Int).toNat * 6 + 4, none⟩ = false := hfr10 4; have hf10_5 : w11.frozen? ⟨go10, (x4_1 : Int).toNat * 6 + 5, none⟩ = false := hfr10 5; clear hcl10 hcc10 hfr10 hM10; replace p10 := eq_true p10; replace q10 := eq_true q10; have n_ := am (Kd.S_mono (ok' := (fun k_ => some k_ ≠ (v430 : Value).ownBlock ∧ some k_ ≠ (v434 : Value).ownBlock)) HO_3.out (fun k_ hk => ⟨hk.1.2, hk.2⟩)); clear HO_3; have HO_3 := n_; clear n_; have HX12 := am (show Kd.S k47 47 w11 w.heap.size (fun k_ => ((fun _ => True)) k_ ∧ ¬ ((fun k_ => some k_ = (v430 : Value).ownBlock ∨ some k_ = (v434 : Value).ownBlock)) k_) (.slice (some ⟨go10, 0, none⟩) x3_1.length co10) x3_1 from (by (with_reducible repeat (first | apply Kd.S_alloc | apply Kd.S_drewN | apply Kd.S_drew)); exact Kd.S_mono HO_3.out (fun k_ hk => ⟨trivial, fun e_ => e_.elim (fun h_ => hk.1 h_) (fun h_ => hk.2 h_)⟩))); obtain ⟨oki12, ce12, hcl12, hM12, hcc12, hfr12, hoki12, hH12⟩ := Kd.S_elem HX12.out z47 (x4_1 : Int) (of_decide_eq_true zb6) (by have h_ : (x4_1 : Int) < ((x3_1.length : Int) : Int) := of_decide_eq_true zb6; first | exact h_ | (have e_ := (Kd.S_reads' HO_3.out).1; omega) | simpa using h_); obtain ⟨ve12_3, ve12_5, rfl, ge12_3, ge12_5⟩ := k47_openM hM12; have HP12 := Kd.S_seg hH12 (of_decide_eq_true zb6) (by have h_ : (x4_1 : Int) < ((x3_1.length : Int) : Int) := of_decide_eq_true zb6; first | exact h_ | (have e_ := (Kd.S_reads' HO_3.out).1; omega) | simpa using h_) (seg := [.string t426, .string t427, .string t428, v430, .bool t432, v434]) (j := 0) (show 6 ≤ 6 from zb36) (x' := (⟨t426, t427, t428, t429, t432, t433⟩ : S47)) (k47_mkM _ _ _ (⟨t426, t427, t428, t429, t432, t433⟩ : S47) (Kd.R_mono (Kd.R_tight rfl (Kd.R_mono (ok' := fun k_ => ((fun _ => True)) k_ ∧ k_ ≠ go10) (Kd.R_apart' (HO431.out) (Kd.S_typed HO_3.out) zb36) (fun k_ hk => ⟨trivial, fun e_ => (hk.2) (by rw [e_]; rfl)⟩))) (fun _ h_ => Or.inr (Or.inl h_))) (Kd.R_mono (Kd.R_tight rfl (Kd.R_mono (ok' := fun k_ => ((fun _ => True)) k_ ∧ k_ ≠ go10) (Kd.R_apart' (HO435.out) (Kd.S_typed HO_3.out) zb36) (fun k_ hk => ⟨trivial, fun e_ => (hk.2) (by rw [e_]; rfl)⟩))) (fun _ h_ => Or.inr (Or.inr (h_))))) (fun _ hk => hk) (fun k_ hk_ => hk_.elim (fun h_ => ((Kd.R_mono (ok' := fun k_ => ((fun _ => True)) k_ ∧ k_ ≠ go10) (Kd.R_apart' (HO431.out) (Kd.S_typed HO_3.out) zb36) (fun k_ hk => ⟨trivial, fun e_ => (hk.2) (by rw [e_]; rfl)⟩))).1 k_ h_.symm) (fun h_ => ((Kd.R_mono (ok' := fun k_ => ((fun _ => True)) k_ ∧ k_ ≠ go10) (Kd.R_apart' (HO435.out) (Kd.S_typed HO_3.out) zb36) (fun k_ hk => ⟨trivial, fun e_ => (hk.2) (by rw [e_]; rfl)⟩))).1 k_ h_.symm)); have hx12_0 := hcc12 0 _ rfl; (try simp only [show (k47).sz = 6 from rfl, Nat.mul_one, Nat.add_zero] at hx12_0); have hf12_0 := hfr12 0; (try simp only [show (k47).sz = 6 from rfl, Nat.mul_one, Nat.add_zero] at hf12_0); have hx12_1 := hcc12 1 _ rfl; (try simp only [show (k47).sz = 6 from rfl, Nat.mul_one, Nat.add_zero] at hx12_1); have hf12_1 := hfr12 1; (try simp only [show (k47).sz = 6 from rfl, Nat.mul_one, Nat.add_zero] at hf12_1); have hx12_2 := hcc12 2 _ rfl; (try simp only [show (k47).sz = 6 from rfl, Nat.mul_one, Nat.add_zero] at hx12_2); have hf12_2 := hfr12 2; (try simp only [show (k47).sz = 6 from rfl, Nat.mul_one, Nat.add_zero] at hf12_2); have hx12_3 := hcc12 3 _ rfl; (try simp only [show (k47).sz = 6 from rfl, Nat.mul_one, Nat.add_zero] at hx12_3); have hf12_3 := hfr12 3; (try simp only [show (k47).sz = 6 from rfl, Nat.mul_one, Nat.add_zero] at hf12_3); have hx12_4 := hcc12 4 _ rfl; (try simp only [show (k47).sz = 6 from rfl, Nat.mul_one, Nat.add_zero] at hx12_4); have hf12_4 := hfr12 4; (try simp only [show (k47).sz = 6 from rfl, Nat.mul_one, Nat.add_zero] at hf12_4); have hx12_5 := hcc12 5 _ rfl; (try simp only [show (k47).sz = 6 from rfl, Nat.mul_one, Nat.add_zero] at hx12_5); have hf12_5 := hfr12 5; (try simp only [show (k47).sz = 6 from rfl, Nat.mul_one, Nat.add_zero] at hf12_5); clear hcl12 hcc12 hfr12 hM12 hoki12 hH12) | ((with_reducible refine gate_store (t := 47) (p := 21) rfl ?_); refine store_event (t := 47) (p := 21) (v := ?vo_w13) (w1 := ((((((w11.setCell ⟨go10, (x4_1 : Int).toNat * 6, none⟩ (.string t426)).setCell ⟨go10, (x4_1 : Int).toNat * 6 + 1, none⟩ (.string t427)).setCell ⟨go10, (x4_1 : Int).toNat * 6 + 2, none⟩ (.string t428)).setCell ⟨go10, (x4_1 : Int).toNat * 6 + 3, none⟩ (v430)).setCell ⟨go10, (x4_1 : Int).toNat * 6 + 4, none⟩ (.bool t432)).setCell ⟨go10, (x4_1 : Int).toNat * 6 + 5, none⟩ (v434))) ?hg ?ho ?hn ?hr ?_; (case ho => rfl); (case hg => rfl); (case hn => rfl); (case hr => exact zb13); intro w13 hw; have hg : w11.grownBy w13 (some go10) := (by rw [hw]; exact HP12.2); have hp_ : Kd.S k47 47 w13 w.heap.size (fun _ => True) (.slice (some ⟨go10, 0, none⟩) x3_1.length co10) y436 := (by rw [hw, Ny436.out]; exact HP12.1); clear HP12; replace HO_3 := am hp_; replace HB := am ((by rw [hw]; exact below_set (below_set (below_set (below_set (below_set (below_set (HB.out) GB10.out) GB10.out) GB10.out) GB10.out) GB10.out) GB10.out : Below w.heap.size w w13)); clear HO431 HO435 hg hw hp_))
        go_roundg k1
        case measure => have := HK1.out; omega
        case rel => exact ⟨(y436), (wrap64 (x4_1 + 1)), zb3, H', ⟨by have := HK1.out; omega⟩, ⟨zb34⟩, ⟨zb0⟩⟩
       ·rw [if_neg c9] at H
        exact absurd H zb44
      ·rw [if_neg c7] at H
       exact absurd H zb44
     ·rw [if_neg c6] at H
      have c6b0 : decide (x4_1 < (l0.length : Int)) = false := decide_eq_false c6
      clear c6
      obtain rfl := Option.some.inj H
      go_wp2
      go_ret
      exact ⟨_, zb12, zb34, zb0⟩
  ·rw [if_neg c3] at H
   exact absurd H zb44
 ·rw [if_neg c2] at H
  exact absurd H zb44
set_option maxHeartbeats 8000000 in
set_option maxRecDepth 100000 in
theorem laws_toGraph.calls (k : Nat) (A0_0 : Option Addr) (c0_0 : Nat) (l0_0 : List ByteArray) (A0_1 : Option Addr) (c0_1 : Nat) (l0_1 : List (S139)) (r1 : List ByteArray) (r2 : List (S47)) (w : World) (hr0_0 : Kd.C Kd.string w A0_0 l0_0.length l0_0) (hc0_0 : l0_0.length ≤ c0_0) (hr0_1 : Kd.C k139 w A0_1 l0_1.length l0_1) (hc0_1 : l0_1.length ≤ c0_1) (h : laws_toGraph.f k l0_0 l0_1 = some (r1, r2)) :
  Calls Tryz.prog 34 #[.agg #[.slice A0_0 l0_0.length c0_0, .slice A0_1 l0_1.length c0_1]] w fun e w' => ∃ v0_ v1_ : Value, e = .returned (.agg #[v0_, v1_]) ∧ Kd.R Kd.string 9 w' w.heap.size (fun _ => True) v0_ r1 ∧ Kd.S k47 47 w' w.heap.size (fun k_ => some k_ ≠ (v0_ : Value).ownBlock) v1_ r2 ∧ Below w.heap.size w w' := by
 have hu54 := Tryz.underlying54
 have hu39 := Tryz.underlying39
 have HR0_0 := am hr0_0
 have HC0_0 := am hc0_0
 clear hr0_0 hc0_0
 have HR0_1 := am hr0_1
 have HC0_1 := am hc0_1
 clear hr0_1 hc0_1
 have HB := am (Below.refl w.heap.size w)
 have H : ((laws_toStringS.f k l0_0).bind fun t440 => ((laws_toPackS.f k l0_1).bind fun t443 => (some (t440, t443)))) = some (r1, r2) := h
 clear h
 replace H := Option.bind_eq_some_iff.mp H
 obtain ⟨t440, A20, H⟩ := H
 try dsimp only at H
 have A2 := am A20
 clear A20
 replace H := Option.bind_eq_some_iff.mp H
 obtain ⟨t443, A30, H⟩ := H
 try dsimp only at H
 have A3 := am A30
 clear A30
 simp only [Option.some.injEq, Prod.mk.injEq] at H
 obtain ⟨rfl, rfl⟩ := H
 go_enter Tryz.func34, Tryz.ntmps34
 go_wp2_with (first | ((with_reducible refine gate_dst (N := 1) rfl ?_); refine box_event ?hg (N := 1) ?hd (cs := #[.slice A0_0 l0_0.length c0_0, .slice A0_1 l0_1.length c0_1]) (t := 54) ?hr ?_; (case hd => rfl); (case hg => rfl); (case hr => exact zb13); intro gb437 hg w4 hbox hb; have BK437 := am hbox; have GW437 := am ((by rw [hg]; exact (below_size zb0) : w.heap.size ≤ gb437)); have GE437 := am ((by rw [hg]; exact (below_size zb0) : w.heap.size ≤ gb437)); replace HB := am (below_step zb0 hb); clear hb hbox hg) | ((with_reducible refine gate_dst (N := 2) rfl ?_); refine box_event ?hg (N := 2) ?hd (cs := #[.slice none 0 0, .slice none 0 0]) (t := 39) ?hr ?_; (case hd => rfl); (case hg => rfl); (case hr => exact zb13); intro gb438 hg w5 hbox hb; have BK438 := am hbox; have GW438 := am ((by rw [hg]; exact (below_size zb27) : w.heap.size ≤ gb438)); have GE438 := am ((by rw [hg]; exact (below_size zb27) : w.heap.size ≤ gb438)); replace HB := am (below_step zb27 hb); have NB437_438 := am ((by rw [hg]; exact Nat.ne_of_lt (blk_lt (g := gb437) (o := .cells #[.slice A0_0 l0_0.length c0_0, .slice A0_1 l0_1.length c0_1] 54 (0, 0)) (zB BK437.out)) : gb437 ≠ gb438)); have NB438_437 := am ((by rw [hg]; exact Nat.ne_of_gt (blk_lt (g := gb437) (o := .cells #[.slice A0_0 l0_0.length c0_0, .slice A0_1 l0_1.length c0_1] 54 (0, 0)) (zB BK437.out)) : gb438 ≠ gb437)); replace BK437 := am (blk_below (g := gb437) (o := .cells #[.slice A0_0 l0_0.length c0_0, .slice A0_1 l0_1.length c0_1] 54 (0, 0)) (zB BK437.out) hb); clear hb hbox hg) | ((with_reducible refine gate_dst (N := 3) rfl ?_); refine box_event ?hg (N := 3) ?hd (cs := #[.slice none 0 0, .slice none 0 0]) (t := 39) ?hr ?_; (case hd => rfl); (case hg => rfl); (case hr => exact zb13); intro gb439 hg w6 hbox hb; have BK439 := am hbox; have GW439 := am ((by rw [hg]; exact (below_size zb20) : w.heap.size ≤ gb439)); have GE439 := am ((by rw [hg]; exact (below_size zb20) : w.heap.size ≤ gb439)); replace HB := am (below_step zb20 hb); have NB437_439 := am ((by rw [hg]; exact Nat.ne_of_lt (blk_lt (g := gb437) (o := .cells #[.slice A0_0 l0_0.length c0_0, .slice A0_1 l0_1.length c0_1] 54 (0, 0)) (zB BK437.out)) : gb437 ≠ gb439)); have NB439_437 := am ((by rw [hg]; exact Nat.ne_of_gt (blk_lt (g := gb437) (o := .cells #[.slice A0_0 l0_0.length c0_0, .slice A0_1 l0_1.length c0_1] 54 (0, 0)) (zB BK437.out)) : gb439 ≠ gb437)); replace BK437 := am (blk_below (g := gb437) (o := .cells #[.slice A0_0 l0_0.length c0_0, .slice A0_1 l0_1.length c0_1] 54 (0, 0)) (zB BK437.out) hb); have NB438_439 := am ((by rw [hg]; exact Nat.ne_of_lt (blk_lt (g := gb438) (o := .cells #[.slice none 0 0, .slice none 0 0] 39 (0, 0)) (zB BK438.out)) : gb438 ≠ gb439)); have NB439_438 := am ((by rw [hg]; exact Nat.ne_of_gt (blk_lt (g := gb438) (o := .cells #[.slice none 0 0, .slice none 0 0] 39 (0, 0)) (zB BK438.out)) : gb439 ≠ gb438)); replace BK438 := am (blk_below (g := gb438) (o := .cells #[.slice none 0 0, .slice none 0 0] 39 (0, 0)) (zB BK438.out) hb); clear hb hbox hg; have hnb7 := NB437_438.out; have hnc7 := NB438_437.out; have hnb8 := NB437_439.out; have hnc8 := NB439_437.out; have hcz9_0 : w6.cell? ⟨gb437, 0, none⟩ = some (.slice A0_0 l0_0.length c0_0) := bc BK437.out 0; have hcz9_1 : w6.cell? ⟨gb437, 1, none⟩ = some (.slice A0_1 l0_1.length c0_1) := bc BK437.out 1; have hfz9_0 := blk_frozen BK437.out 0; have hfz9_1 := blk_frozen BK437.out 1) | ((with_reducible refine gate_callee (f := 79) rfl ?_); refine goesL_ (some 6) rfl rfl Tryz.func79 zb17 rfl #[.slice A0_0 l0_0.length c0_0] rfl zb4 ?_; (with_reducible refine (laws_toStringS.calls k _ _ l0_0 t440 _ ?side1 ?side2 A2.out).mono ?_); (case side1 => exact zb7); (case side2 => exact HC0_0.out); rintro e w10 ⟨v441, rfl, ho0, hb⟩; refine ⟨_, rfl, ?_⟩; have HO442 := am (Kd.R_lower ho0 (below_size zb14)); replace BK437 := am (blk_below (g := gb437) (o := .cells #[.slice A0_0 l0_0.length c0_0, .slice A0_1 l0_1.length c0_1] 54 (0, 0)) (zB BK437.out) hb); replace BK438 := am (blk_below (g := gb438) (o := .cells #[.slice none 0 0, .slice none 0 0] 39 (0, 0)) (zB BK438.out) hb); replace BK439 := am (blk_below (g := gb439) (o := .cells #[.slice none 0 0, .slice none 0 0] 39 (0, 0)) (zB BK439.out) hb); replace HB := am (below_step zb14 hb); (try clear hb); (try clear ho0); obtain ⟨Ao11, co11, eo11⟩ := Kd.R_slice HO442.out; subst eo11; have hnb12 := NB439_438.out; have hnc12 := NB438_439.out; have hcz13_0 : w10.cell? ⟨gb439, 0, none⟩ = some (.slice none 0 0) := bc BK439.out 0; have hcz13_1 : w10.cell? ⟨gb439, 1, none⟩ = some (.slice none 0 0) := bc BK439.out 1; have hfz13_0 := blk_frozen BK439.out 0; have hfz13_1 := blk_frozen BK439.out 1; have hcz14_0 : w10.cell? ⟨gb437, 0, none⟩ = some (.slice A0_0 l0_0.length c0_0) := bc BK437.out 0; have hcz14_1 : w10.cell? ⟨gb437, 1, none⟩ = some (.slice A0_1 l0_1.length c0_1) := bc BK437.out 1; have hfz14_0 := blk_frozen BK437.out 0; have hfz14_1 := blk_frozen BK437.out 1) | ((with_reducible refine gate_callee (f := 80) rfl ?_); refine goesL_ (some 10) rfl rfl Tryz.func80 zb17 rfl #[.slice A0_1 l0_1.length c0_1] rfl zb4 ?_; (with_reducible refine (laws_toPackS.calls k _ _ l0_1 t443 _ ?side1 ?side2 A3.out).mono ?_); (case side1 => exact Kd.C_below HR0_1.out zb14); (case side2 => exact HC0_1.out); rintro e w15 ⟨v444, rfl, ho0, hb⟩; refine ⟨_, rfl, ?_⟩; have HO445 := am (Kd.S_lower (Kd.S_new' ho0 (Kd.R_lt (zR (Kd.R_mono (Kd.R_far (p := ⟨gb439, 0, none⟩) (Kd.R_types HO442.out BK439.out zb36) (fun _ hk => hk.2) (.slice Ao11 t440.length co11)) (fun _ h_ => h_.1))))) (below_size zb14)); replace HO442 := am (Kd.R_below (zR (Kd.R_mono (Kd.R_far (p := ⟨gb439, 0, none⟩) (Kd.R_types HO442.out BK439.out zb36) (fun _ hk => hk.2) (.slice Ao11 t440.length co11)) (fun _ h_ => h_.1))) hb); replace BK437 := am (blk_below (g := gb437) (o := .cells #[.slice A0_0 l0_0.length c0_0, .slice A0_1 l0_1.length c0_1] 54 (0, 0)) (by (with_reducible repeat (first | refine bN_ ?_ _ | refine bD_ ?_ | refine bA_ ?_ _)); refine blk_far ?_ NB437_439.out _; (with_reducible repeat (first | refine bN_ ?_ _ | refine bD_ ?_ | refine bA_ ?_ _)); exact BK437.out) hb); replace BK438 := am (blk_below (g := gb438) (o := .cells #[.slice none 0 0, .slice none 0 0] 39 (0, 0)) (by (with_reducible repeat (first | refine bN_ ?_ _ | refine bD_ ?_ | refine bA_ ?_ _)); refine blk_far ?_ NB438_439.out _; (with_reducible repeat (first | refine bN_ ?_ _ | refine bD_ ?_ | refine bA_ ?_ _)); exact BK438.out) hb); replace BK439 := am (blk_below (g := gb439) (o := .cells #[.slice Ao11 t440.length co11, .slice none 0 0] 39 (0, 0)) (by (with_reducible repeat (first | refine bN_ ?_ _ | refine bD_ ?_ | refine bA_ ?_ _)); refine blk_put (cs := #[.slice none 0 0, .slice none 0 0]) ?_ 0 _ rfl; (with_reducible repeat (first | refine bN_ ?_ _ | refine bD_ ?_ | refine bA_ ?_ _)); exact BK439.out) hb); replace HB := am (below_step zb14 hb); (try clear hb); (try clear ho0); obtain ⟨Ao16, co16, eo16⟩ := Kd.S_slice HO445.out; subst eo16; have hcz17_0 : w15.cell? ⟨gb439, 0, none⟩ = some (.slice Ao11 t440.length co11) := bc BK439.out 0; have hcz17_1 : w15.cell? ⟨gb439, 1, none⟩ = some (.slice none 0 0) := bc BK439.out 1; have hfz17_0 := blk_frozen BK439.out 0; have hfz17_1 := blk_frozen BK439.out 1; have hcz18_0 : w15.cell? ⟨gb438, 0, none⟩ = some (.slice none 0 0) := bc BK438.out 0; have hcz18_1 : w15.cell? ⟨gb438, 1, none⟩ = some (.slice none 0 0) := bc BK438.out 1; have hfz18_0 := blk_frozen BK438.out 0; have hfz18_1 := blk_frozen BK438.out 1))
 refine bodyPost_ret (results_cell_row rfl _ _ gb438 39 #[.slice Ao11 t440.length co11, .slice Ao16 t443.length co16] (0, 0) _ rfl (by (with_reducible repeat (first | refine bN_ ?_ _ | refine bD_ ?_ | refine bA_ ?_ _)); refine blk_put (cs := #[.slice Ao11 t440.length co11, .slice none 0 0]) ?_ 1 _ rfl; (with_reducible repeat (first | refine bN_ ?_ _ | refine bD_ ?_ | refine bA_ ?_ _)); refine blk_put (cs := #[.slice none 0 0, .slice none 0 0]) ?_ 0 _ rfl; (with_reducible repeat (first | refine bN_ ?_ _ | refine bD_ ?_ | refine bA_ ?_ _)); refine blk_far ?_ NB438_439.out _; (with_reducible repeat (first | refine bN_ ?_ _ | refine bD_ ?_ | refine bA_ ?_ _)); exact BK438.out) Tryz.underlying39 rfl zb17) rfl ?_
 exact ⟨_, _, zb12, (zR (Kd.R_mono (Kd.R_far (p := ⟨gb438, 1, none⟩) (Kd.R_far (p := ⟨gb438, 0, none⟩) (Kd.R_far (p := ⟨gb439, 1, none⟩) (Kd.R_types (Kd.R_types HO442.out BK439.out zb36) BK438.out zb36) (fun _ hk => hk.1.2) (.slice Ao16 t443.length co16)) (fun _ hk => hk.2) (.slice Ao11 t440.length co11)) (fun _ hk => hk.2) (.slice Ao16 t443.length co16)) (fun _ hk => trivial))), (by (with_reducible repeat (first | apply Kd.S_alloc | apply Kd.S_drewN | apply Kd.S_drew)); exact Kd.S_mono (Kd.S_far (p := ⟨gb438, 1, none⟩) (Kd.S_far (p := ⟨gb438, 0, none⟩) (Kd.S_far (p := ⟨gb439, 1, none⟩) (Kd.S_types (Kd.S_types HO445.out BK439.out zb36) BK438.out zb36) (fun _ hk => hk.1.2) (.slice Ao16 t443.length co16)) (fun _ hk => hk.2) (.slice Ao11 t440.length co11)) (fun _ hk => hk.2) (.slice Ao16 t443.length co16)) (fun _ hk => hk.1.1.2)), zb14⟩
set_option maxHeartbeats 8000000 in
set_option maxRecDepth 100000 in
theorem spec_KeyOf.calls (a0_0 : ByteArray) (a0_1 : ByteArray) (a0_2 : ByteArray) (A0_3 : Option Addr) (c0_3 : Nat) (l0_3 : List (S130)) (a0_4 : Bool) (A0_5 : Option Addr) (c0_5 : Nat) (l0_5 : List ByteArray) (r : ByteArray) (w : World) (hr0_3 : Kd.C k130 w A0_3 l0_3.length l0_3) (hc0_3 : l0_3.length ≤ c0_3) (hr0_5 : Kd.C Kd.string w A0_5 l0_5.length l0_5) (hc0_5 : l0_5.length ≤ c0_5) (h : spec_KeyOf.f a0_0 a0_1 a0_2 l0_3 a0_4 l0_5 = some r) :
  Calls Tryz.prog 70 #[.agg #[.string a0_0, .string a0_1, .string a0_2, .slice A0_3 l0_3.length c0_3, .bool a0_4, .slice A0_5 l0_5.length c0_5]] w fun e w' => e = .returned (.string r) ∧ Below w.heap.size w w' := by
 have hu47 := Tryz.underlying47
 have HR0_3 := am hr0_3
 have HC0_3 := am hc0_3
 clear hr0_3 hc0_3
 have HR0_5 := am hr0_5
 have HC0_5 := am hc0_5
 clear hr0_5 hc0_5
 have HB := am (Below.refl w.heap.size w)
 have H : (if a0_0.size + 1 ≤ 9223372036854775807 then (if (a0_0 ++ (⟨#[64]⟩ : ByteArray)).size + a0_1.size ≤ 9223372036854775807 then (some ((a0_0 ++ (⟨#[64]⟩ : ByteArray)) ++ a0_1)) else (none)) else (none)) = some r := h
 clear h
 by_cases c2 : a0_0.size + 1 ≤ 9223372036854775807
 ·rw [if_pos c2] at H
  have c2b0 := eq_true c2
  have c2b1 : decide (a0_0.size + 1 ≤ 9223372036854775807) = true := decide_eq_true c2
  try have c2b2 : (9223372036854775807 < a0_0.size + 1) = False := eq_false (Nat.not_lt.2 c2)
  obtain ⟨js3, hjs3⟩ : ∃ j_ : ByteArray, (a0_0 ++ (⟨#[64]⟩ : ByteArray)) = j_ := ⟨_, rfl⟩
  replace H : (if (js3).size + a0_1.size ≤ 9223372036854775807 then (some ((js3) ++ a0_1)) else (none)) = some r := by first | (rw [hjs3] at H; exact H) | (simp only [hjs3] at H ⊢; exact H)
  by_cases c4 : (js3).size + a0_1.size ≤ 9223372036854775807
  ·rw [if_pos c4] at H
   have c4b0 := eq_true c4
   have c4b1 : decide ((js3).size + a0_1.size ≤ 9223372036854775807) = true := decide_eq_true c4
   try have c4b2 : (9223372036854775807 < (js3).size + a0_1.size) = False := eq_false (Nat.not_lt.2 c4)
   obtain ⟨js5, hjs5⟩ : ∃ j_ : ByteArray, ((js3) ++ a0_1) = j_ := ⟨_, rfl⟩
   replace H : (some js5) = some r := by first | (rw [hjs5] at H; exact H) | (simp only [hjs5] at H ⊢; exact H)
   obtain rfl := Option.some.inj H
   go_enter Tryz.func70, Tryz.ntmps70
   go_wp2_with (first | ((with_reducible refine gate_dst (N := 1) rfl ?_); refine box_event ?hg (N := 1) ?hd (cs := #[.string a0_0, .string a0_1, .string a0_2, .slice A0_3 l0_3.length c0_3, .bool a0_4, .slice A0_5 l0_5.length c0_5]) (t := 47) ?hr ?_; (case hd => rfl); (case hg => rfl); (case hr => exact zb13); intro gb206 hg w6 hbox hb; have BK206 := am hbox; have GW206 := am ((by rw [hg]; exact (below_size zb0) : w.heap.size ≤ gb206)); have GE206 := am ((by rw [hg]; exact (below_size zb0) : w.heap.size ≤ gb206)); replace HB := am (below_step zb0 hb); clear hb hbox hg; have hcz7_0 : w6.cell? ⟨gb206, 0, none⟩ = some (.string a0_0) := bc BK206.out 0; have hcz7_1 : w6.cell? ⟨gb206, 1, none⟩ = some (.string a0_1) := bc BK206.out 1; have hcz7_2 : w6.cell? ⟨gb206, 2, none⟩ = some (.string a0_2) := bc BK206.out 2; have hcz7_3 : w6.cell? ⟨gb206, 3, none⟩ = some (.slice A0_3 l0_3.length c0_3) := bc BK206.out 3; have hcz7_4 : w6.cell? ⟨gb206, 4, none⟩ = some (.bool a0_4) := bc BK206.out 4; have hcz7_5 : w6.cell? ⟨gb206, 5, none⟩ = some (.slice A0_5 l0_5.length c0_5) := bc BK206.out 5; have hfz7_0 := blk_frozen BK206.out 0; have hfz7_1 := blk_frozen BK206.out 1; have hfz7_2 := blk_frozen BK206.out 2; have hfz7_3 := blk_frozen BK206.out 3; have hfz7_4 := blk_frozen BK206.out 4; have hfz7_5 := blk_frozen BK206.out 5))
   go_ret
   exact ⟨(by first | rfl | (simp [errW_none, errW_some] <;> rfl) | (simp only [← hjs3, ← hjs5]; first | rfl | (simp [errW_none, errW_some] <;> rfl)) | (simp [*, errW_none, errW_some] <;> rfl)), (by repeat (first | (with_reducible first | exact HB.out | apply below_alloc | apply pw_below_drewN | apply below_drew1 | refine below_set ?_ GE206.out) | exact HB.out))⟩
  ·rw [if_neg c4] at H
   exact absurd H zb44
 ·rw [if_neg c2] at H
  exact absurd H zb44
set_option maxHeartbeats 8000000 in
set_option maxRecDepth 100000 in
theorem spec_l04Has.calls (k : Nat) (A0 : Option Addr) (c0 : Nat) (l0 : List ByteArray) (a1 : ByteArray) (r : Bool) (w : World) (hr0 : Kd.C Kd.string w A0 l0.length l0) (hc0 : l0.length ≤ c0) (h : spec_l04Has.f k l0 a1 = some r) :
  Calls Tryz.prog 71 #[.slice A0 l0.length c0, .string a1] w fun e w' => e = .returned (.bool r) ∧ Drawn0 w w' := by
 have HR0 := am hr0
 have HC0 := am hc0
 clear hr0 hc0
 have H : (spec_l04Has.l0 k l0 a1 0) = some r := h
 clear h
 have H' := am H
 clear H
 go_enter Tryz.func71, Tryz.ntmps71
 go_wp2
 go_loopg [5] k (fun kq v5 w' => ∃ (x5_1 : Int), v5 = .int .i64 x5_1 ∧ Aside0 (spec_l04Has.l0 kq l0 a1 x5_1 = some r) ∧ Aside0 (kq ≤ k) ∧ Drawn0 w w')
 case atStart => exact ⟨(0), zb3, H', ⟨Nat.le_refl _⟩, zb19⟩
 case round =>
  clear H'
  try clear p2
  obtain ⟨x5_1, rfl, HA, HK1, ⟨m1, rfl⟩⟩ := hrel
  cases gk with
  | zero => exact absurd HA.out (by simp [spec_l04Has.l0])
  | succ k1 =>
   have H := HA.out
   clear HA
   simp only [spec_l04Has.l0] at H
   by_cases c3 : x5_1 < (l0.length : Int)
   ·rw [if_pos c3] at H
    have c3b0 : decide (x5_1 < (l0.length : Int)) = true := decide_eq_true c3
    clear c3
    by_cases c4 : 0 ≤ x5_1
    ·rw [if_pos c4] at H
     have c4b0 : decide (0 ≤ x5_1) = true := decide_eq_true c4
     clear c4
     by_cases c5 : (rdOf ByteArray.empty l0 x5_1).toList = a1.toList
     ·rw [if_pos c5] at H
      have c5b0 : ((rdOf ByteArray.empty l0 x5_1).toList == a1.toList) = true := beq_iff_eq.mpr c5
      have c5b1 : ((rdOf ByteArray.empty l0 x5_1).toList != a1.toList) = false := bne_eq_false_iff_eq.mpr c5
      clear c5
      obtain rfl := Option.some.inj H
      have p370 : 0 ≤ (x5_1 : Int) := of_decide_eq_true zb6
      have q370 : x5_1 < (l0.length : Int) := of_decide_eq_true zb6
      obtain ⟨ad370, e370, hx370_0⟩ := Kd.at_string HR0.out x5_1 p370 q370
      cases e370
      replace p370 := eq_true p370
      replace q370 := eq_true q370
      go_wp2
      go_ret
      exact ⟨zb3, zb19⟩
     ·rw [if_neg c5] at H
      have c5b0 : ((rdOf ByteArray.empty l0 x5_1).toList == a1.toList) = false := beq_eq_false_iff_ne.mpr c5
      have c5b1 : ((rdOf ByteArray.empty l0 x5_1).toList != a1.toList) = true := bne_iff_ne.mpr c5
      have H' := am H
      clear H
      have p370 : 0 ≤ (x5_1 : Int) := of_decide_eq_true zb6
      have q370 : x5_1 < (l0.length : Int) := of_decide_eq_true zb6
      obtain ⟨ad370, e370, hx370_0⟩ := Kd.at_string HR0.out x5_1 p370 q370
      cases e370
      replace p370 := eq_true p370
      replace q370 := eq_true q370
      go_wp2
      go_roundg k1
      case measure => have := HK1.out; omega
      case rel => exact ⟨(wrap64 (x5_1 + 1)), zb3, H', ⟨by have := HK1.out; omega⟩, zb19⟩
    ·rw [if_neg c4] at H
     exact absurd H zb44
   ·rw [if_neg c3] at H
    have c3b0 : decide (x5_1 < (l0.length : Int)) = false := decide_eq_false c3
    clear c3
    obtain rfl := Option.some.inj H
    go_wp2
    go_ret
    exact ⟨zb3, zb19⟩
end Go.Proofs.YtieohddolkeegaaGreatDoor.G

end
section
namespace Go.Proofs.YtieohddolkeegaaGreatDoor.U
open Go Go.RowKit Go.Proofs.YtieohddolkeegaaGreatDoorW.PrintWords
set_option linter.unusedVariables false
set_option linter.unusedSimpArgs false
abbrev B := List UInt8
def L (s : ByteArray) : B := s.data.toList
def S (l : B) : ByteArray := ⟨l.toArray⟩
def I (l : B) : List Int := l.map fun b => (b.toNat : Int)
@[simp] theorem L_S (l : B) : L (S l) = l := by simp [L, S]
@[simp] theorem S_L (s : ByteArray) : S (L s) = s := rfl
theorem L_inj {s t : ByteArray} (h : L s = L t) : s = t := by rw [← S_L s, ← S_L t, h]
theorem size_L (s : ByteArray) : s.size = (L s).length := Go.Lib.size_eq s
@[simp] theorem size_S (l : B) : (S l).size = l.length := by rw [size_L, L_S]
theorem toList_L (s : ByteArray) : s.toList = L s := Go.Lib.toList_data s
@[simp] theorem toList_S (l : B) : (S l).toList = l := by rw [toList_L, L_S]
@[simp] theorem L_append (s t : ByteArray) : L (s ++ t) = L s ++ L t := by simp [L, ByteArray.data_append]
@[simp] theorem S_append (l m : B) : S l ++ S m = S (l ++ m) := L_inj (by simp)
theorem L_extract (s : ByteArray) (a b : Nat) : L (s.extract a b) = ((L s).drop a).take (b - a) := Go.Lib.extract_data s a b
@[simp] theorem I_length (l : B) : (I l).length = l.length := by simp [I]
@[simp] theorem I_nil : I [] = [] := rfl
@[simp] theorem str_I (l : B) : strOfNums (I l) = S l := by
 unfold strOfNums I S
 rw [List.map_map]
 congr 2
 have e : ((fun n : Int => UInt8.ofNat n.toNat) ∘ fun b : UInt8 => (b.toNat : Int)) = id := by funext b; simp
 rw [e, List.map_id]
@[simp] theorem str_nil : strOfNums [] = S [] := rfl
theorem bt_S (l : B) (i : Int) (h : i.toNat < l.length) : bt (S l) i = ((l[i.toNat]).toNat : Int) := by
 have h' : i.toNat < (S l).size := by simpa using h
 rw [← bt_at (S l) i h']
 rfl
theorem bt_L (s : ByteArray) (i : Int) (h : i.toNat < (L s).length) : bt s i = (((L s)[i.toNat]).toNat : Int) := by
 have := bt_S (L s) i h
 rwa [S_L] at this
def at_ (l : B) (i : Nat) : UInt8 := l.getD i 0
theorem at_eq (l : B) (i : Nat) (h : i < l.length) : at_ l i = l[i] := by simp [at_, h]
theorem bt_at_ (s : ByteArray) (i : Int) : bt s i = ((at_ (L s) i.toNat).toNat : Int) := by
 by_cases h : i.toNat < (L s).length
 ·rw [bt_L s i h, at_eq _ _ h]
 ·have h2 : ¬ i.toNat < s.size := by rw [size_L]; exact h
  have h3 : at_ (L s) i.toNat = 0 := by simp [at_, List.getD_eq_getElem?_getD, List.getElem?_eq_none (Nat.le_of_not_lt h)]
  rw [h3]; unfold bt; rw [dif_neg h2]; rfl
theorem bt_nat (s : ByteArray) (i : Nat) : bt s (i : Int) = ((at_ (L s) i).toNat : Int) := bt_at_ s i
theorem byte_lt (c : UInt8) : (c.toNat : Int) < 256 := by have := c.toNat_lt; omega
theorem byte_inj {c d : UInt8} (h : (c.toNat : Int) = (d.toNat : Int)) : c = d := UInt8.toNat_inj.1 (by omega)
theorem drop_at (l : B) (i : Nat) (h : i < l.length) : l.drop i = at_ l i :: l.drop (i + 1) := by
 rw [at_eq l i h]; exact List.drop_eq_getElem_cons h
theorem take_at (l : B) (i : Nat) (h : i < l.length) : l.take (i + 1) = l.take i ++ [at_ l i] := by
 rw [at_eq l i h, List.take_succ_eq_append_getElem h]
theorem w64 {n : Int} (h0 : -9223372036854775808 ≤ n) (h1 : n ≤ 9223372036854775807) : wrap64 n = n := by unfold wrap64; omega
theorem ev_ite_pos {α : Type} {c : Nat → Prop} [∀ k, Decidable (c k)] {g f : Nat → Option α} {r : α} (hc : ∀ k, c k) (h : Ev g r) : Ev (fun k => if c k then g k else f k) r := Ev.congr (fun k => by rw [if_pos (hc k)]) h
theorem ev_ite_neg {α : Type} {c : Nat → Prop} [∀ k, Decidable (c k)] {g f : Nat → Option α} {r : α} (hc : ∀ k, ¬ c k) (h : Ev f r) : Ev (fun k => if c k then g k else f k) r := Ev.congr (fun k => by rw [if_neg (hc k)]) h
theorem ev_pos {α : Type} {c : Prop} [Decidable c] {g f : Nat → Option α} {r : α} (hc : c) (h : Ev g r) : Ev (fun k => if c then g k else f k) r := ev_ite_pos (fun _ => hc) h
theorem ev_neg {α : Type} {c : Prop} [Decidable c] {g f : Nat → Option α} {r : α} (hc : ¬ c) (h : Ev f r) : Ev (fun k => if c then g k else f k) r := ev_ite_neg (fun _ => hc) h
theorem ev_some {α β : Type} {a : α} {f : Nat → α → Option β} {r : β} (h : Ev (fun k => f k a) r) : Ev (fun k => (some a).bind (f k)) r := h
theorem ev_const {α β : Type} {g : Option α} {a : α} (hg : g = some a) {f : Nat → α → Option β} {r : β} (h : Ev (fun k => f k a) r) : Ev (fun k => g.bind (f k)) r := by subst hg; exact h
theorem ev_use {α : Type} {g : Nat → Option α} {a b : α} (h : Ev g a) (e : a = b) : Ev g b := e ▸ h
theorem loop_up {σ α : Type} (g : Nat → Int → σ → Option α) (n : Nat) (Inv : Nat → σ → Prop) (res : Nat → σ → α)
  (hend : ∀ st, Inv n st → Ev (fun k => g k (n : Int) st) (res n st))
  (hstep : ∀ i st, i < n → Inv i st → (∀ st', Inv (i + 1) st' → Ev (fun k => g k ((i + 1 : Nat) : Int) st') (res (i + 1) st')) → Ev (fun k => g k (i : Int) st) (res i st)) :
  ∀ i st, i ≤ n → Inv i st → Ev (fun k => g k (i : Int) st) (res i st) := by
 intro i st hi
 obtain ⟨d, hd⟩ : ∃ d, i + d = n := ⟨n - i, by omega⟩
 clear hi
 induction d generalizing i st with
 | zero =>
  intro h
  have e : i = n := by omega
  subst e; exact hend st h
 | succ d ih => intro h; exact hstep i st (by omega) h fun st' h' => ih (i + 1) st' (by omega) h'
theorem inc (i : Nat) (h : i < 9223372036854775807) : wrap64 ((i : Int) + 1) = ((i + 1 : Nat) : Int) := by rw [w64 (by omega) (by omega)]; omega
theorem wa1 (j : Nat) (h : j ≤ 1125899906842624) : wrap64 ((j : Int) + 1) = ((j + 1 : Nat) : Int) := by rw [w64 (by omega) (by omega)]; omega
theorem all_bytes {p : UInt8 → Prop} (h : ∀ n, n < 256 → p (UInt8.ofNat n)) (c : UInt8) : p c := by
 have := h c.toNat c.toNat_lt
 rwa [UInt8.ofNat_toNat] at this
def szOut (left w : Int) : Int := if w ≤ left then left - w else -1
theorem szOut_neg {left w : Int} (h : left < w) : szOut left w = -1 := by unfold szOut; rw [if_neg (by omega)]
theorem szOut_pos {left w : Int} (h : w ≤ left) : szOut left w = left - w := by unfold szOut; rw [if_pos h]
def Room (x : Int) : Prop := 0 ≤ x ∧ x ≤ 1048576
theorem room_le {left w : Int} (hl : Room left) (hw : 0 ≤ w) (h : w ≤ left) : Room (left - w) := by unfold Room at *; omega
theorem room_sub {left : Int} {n : Nat} (hl : Room left) (hn : n ≤ maxLen) : wrap64 (left - (n : Int)) = left - n := by
 unfold Room at hl; exact w64 (by unfold maxLen at hn; omega) (by omega)
theorem szOut_add {left v w : Int} (hv : 0 ≤ v) (hw : 0 ≤ w) (h : v ≤ left) : szOut (left - v) w = szOut left (v + w) := by
 unfold szOut; by_cases h1 : w ≤ left - v
 ·rw [if_pos h1, if_pos (by omega)]; omega
 ·rw [if_neg h1, if_neg (by omega)]
def Sz (g : Nat → Int → Option Int) (w : Int) : Prop := 0 ≤ w ∧ ∀ left, Room left → Ev (fun k => g k left) (szOut left w)
theorem sz_cut {left : Int} {n : Nat} {w : Int} {f : Nat → Option Int} (hl : Room left) (hn : n ≤ maxLen) (hw : 0 ≤ w)
  (h : (n : Int) ≤ left → Room (left - n) → Ev f (szOut (left - n) w)) : Ev (fun k => if wrap64 (left - (n : Int)) < 0 then some (-1) else f k) (szOut left (n + w)) := by
 rw [room_sub hl hn]
 by_cases h0 : left - (n : Int) < 0
 ·rw [szOut_neg (by omega)]; exact ev_pos h0 (Ev.now _)
 ·refine ev_neg h0 ?_; rw [← szOut_add (by omega) hw (by omega)]; exact h (by omega) (room_le hl (by omega) (by omega))
theorem sz_last {left : Int} {n : Nat} (hl : Room left) (hn : n ≤ maxLen) : Ev (fun _ => if wrap64 (left - (n : Int)) < 0 then some (-1) else some (wrap64 (left - (n : Int)))) (szOut left n) := by
 rw [room_sub hl hn]
 by_cases h0 : left - (n : Int) < 0
 ·rw [szOut_neg (by omega)]; exact ev_pos h0 (Ev.now _)
 ·refine ev_neg h0 ?_; rw [szOut_pos (by omega)]; exact Ev.now _
theorem sz_call {left v w : Int} {g : Nat → Int → Option Int} {f : Nat → Int → Option Int} (hg : Sz g v) (hl : Room left) (hw : 0 ≤ w)
  (h : v ≤ left → Room (left - v) → Ev (fun k => f k (left - v)) (szOut (left - v) w)) : Ev (fun k => (g k left).bind fun t => if t < 0 then some (-1) else f k t) (szOut left (v + w)) := by
 refine Ev.bind (hg.2 left hl) ?_
 by_cases h0 : v ≤ left
 ·rw [szOut_pos h0]; refine ev_neg (by omega) ?_; rw [← szOut_add hg.1 hw h0]; exact h h0 (room_le hl hg.1 h0)
 ·rw [szOut_neg (by omega), szOut_neg (by omega)]; exact ev_pos (by omega) (Ev.now _)
theorem sz_done {left : Int} (h : Room left) : Ev (fun _ => some left) (szOut left 0) := by
 rw [szOut_pos (by unfold Room at h; omega)]; simpa using Ev.now left
def sumW {α : Type} (w : α → Int) : List α → Int
 | [] => 0
 | x :: l => w x + sumW w l
theorem sumW_nonneg {α : Type} {w : α → Int} {l : List α} (h : ∀ x ∈ l, 0 ≤ w x) : 0 ≤ sumW w l := by
 induction l with
 | nil => simp [sumW]
 | cons x l ih => have := h x (by simp); have := ih fun y hy => h y (by simp [hy]); simp only [sumW]; omega
theorem sumW_mem {α : Type} {w : α → Int} {l : List α} (h : ∀ x ∈ l, 0 ≤ w x) {x : α} (hx : x ∈ l) : w x ≤ sumW w l := by
 induction l with
 | nil => simp at hx
 | cons y l ih =>
  have h1 := h y (by simp); have h2 : 0 ≤ sumW w l := sumW_nonneg fun z hz => h z (by simp [hz])
  simp only [sumW]
  rcases List.mem_cons.1 hx with rfl | hx
  ·omega
  ·have := ih (fun z hz => h z (by simp [hz])) hx; omega
def wList {α : Type} (w : α → Int) (l : List α) : Int := l.length + sumW w l
theorem wList_nonneg {α : Type} {w : α → Int} {l : List α} (h : ∀ x ∈ l, 0 ≤ w x) : 0 ≤ wList w l := by
 have := sumW_nonneg h; unfold wList; omega
theorem wList_len {α : Type} {w : α → Int} {l : List α} (h : ∀ x ∈ l, 0 ≤ w x) : (l.length : Int) ≤ wList w l := by
 have := sumW_nonneg h; unfold wList; omega
theorem wList_mem {α : Type} {w : α → Int} {l : List α} (h : ∀ x ∈ l, 0 ≤ w x) {x : α} (hx : x ∈ l) : w x ≤ wList w l := by
 have := sumW_mem h hx; unfold wList; omega
theorem getD_mem {α : Type} (l : List α) (i : Nat) (z : α) (h : i < l.length) : l.getD i z ∈ l := by
 rw [List.getD_eq_getElem?_getD, List.getElem?_eq_getElem h]; exact List.getElem_mem h
theorem drop_getD {α : Type} (l : List α) (i : Nat) (z : α) (h : i < l.length) : l.drop i = l.getD i z :: l.drop (i + 1) := by
 rw [List.getD_eq_getElem?_getD, List.getElem?_eq_getElem h]; exact List.drop_eq_getElem_cons h
theorem sz_loop {α : Type} (l : List α) (z : α) (w : α → Int) (g : Nat → Int → Int → Option Int) (s : Nat → α → Int → Option Int) (hlen : l.length ≤ maxLen)
  (hin : ∀ k (i : Nat) st, i < l.length → g (k + 1) (i : Int) st = (s k (l.getD i z) st).bind fun t => if t < 0 then some (-1) else g k (wrap64 ((i : Int) + 1)) t)
  (hend : ∀ k st, g (k + 1) (l.length : Int) st = some st)
  (hs : ∀ x ∈ l, Sz (fun k left => s k x left) (w x)) :
  ∀ left, Room left → Ev (fun k => g k 0 left) (szOut left (sumW w l)) := by
 have hw : ∀ x ∈ l, 0 ≤ w x := fun x hx => (hs x hx).1
 have key : ∀ d i st, i + d = l.length → Room st → Ev (fun k => g k (i : Int) st) (szOut st (sumW w (l.drop i))) := by
  intro d
  induction d with
  | zero =>
   intro i st hi hr
   have e : i = l.length := by omega
   subst e
   rw [List.drop_length]
   exact Ev.step (by intro k; rw [hend]) (sz_done hr)
  | succ d ih =>
   intro i st hi hr
   have h : i < l.length := by omega
   rw [drop_getD l i z h]
   refine Ev.step (fun k => hin k i st h) ?_
   refine sz_call (g := fun k left => s k (l.getD i z) left) (hs _ (getD_mem l i z h)) hr (sumW_nonneg fun x hx => hw x (List.mem_of_mem_drop hx)) fun _ hr' => ?_
   rw [inc i (by unfold maxLen at hlen; omega)]
   exact ih (i + 1) _ (by omega) hr'
 intro left hl
 exact key l.length 0 left (by omega) hl
theorem to_loop {α β : Type} (l : List α) (z : α) (y : β) (f : α → β) (g : Nat → Int → List β → Option (List β)) (hlen : l.length ≤ maxLen)
  (hin : ∀ k (i : Nat) st, i < l.length → st.length = l.length → g (k + 1) (i : Int) st = g k (wrap64 ((i : Int) + 1)) (st.set i (f (l.getD i z))))
  (hend : ∀ k st, g (k + 1) (l.length : Int) st = some st) :
  Ev (fun k => g k 0 (List.replicate l.length y)) (l.map f) := by
 have key : ∀ d i st, i + d = l.length → st.length = l.length → Ev (fun k => g k (i : Int) st) (st.take i ++ (l.drop i).map f) := by
  intro d
  induction d with
  | zero =>
   intro i st hi hs
   have e : i = l.length := by omega
   subst e
   rw [List.drop_length]
   exact Ev.step (by intro k; rw [hend]) (ev_use (Ev.now _) (by rw [← hs, List.take_length]; simp))
  | succ d ih =>
   intro i st hi hs
   have h : i < l.length := by omega
   rw [drop_getD l i z h]
   refine Ev.step (fun k => hin k i st h hs) ?_
   rw [inc i (by unfold maxLen at hlen; omega)]
   refine ev_use (ih (i + 1) _ (by omega) (by simpa using hs)) ?_
   have h2 : i < st.length := by omega
   rw [List.take_succ_eq_append_getElem (by simpa using h2)]
   simp [List.take_set_of_le]
 have := key l.length 0 (List.replicate l.length y) (by omega) (by simp)
 simpa using this
theorem to_loop2 {α β : Type} (l : List α) (z : α) (y : β) (f : α → β) (g : Nat → Int → List β → Option (List β)) (p : Nat → α → Option β) (hlen : l.length ≤ maxLen)
  (hin : ∀ k (i : Nat) st, i < l.length → st.length = l.length → g (k + 1) (i : Int) st = (p k (l.getD i z)).bind fun b => g k (wrap64 ((i : Int) + 1)) (st.set i b))
  (hend : ∀ k st, g (k + 1) (l.length : Int) st = some st)
  (hp : ∀ x ∈ l, Ev (fun k => p k x) (f x)) :
  Ev (fun k => g k 0 (List.replicate l.length y)) (l.map f) := by
 have key : ∀ d i st, i + d = l.length → st.length = l.length → Ev (fun k => g k (i : Int) st) (st.take i ++ (l.drop i).map f) := by
  intro d
  induction d with
  | zero =>
   intro i st hi hs
   have e : i = l.length := by omega
   subst e
   rw [List.drop_length]
   exact Ev.step (by intro k; rw [hend]) (ev_use (Ev.now _) (by rw [← hs, List.take_length]; simp))
  | succ d ih =>
   intro i st hi hs
   have h : i < l.length := by omega
   rw [drop_getD l i z h]
   refine Ev.step (fun k => hin k i st h hs) ?_
   refine Ev.bind (hp _ (getD_mem l i z h)) ?_
   rw [inc i (by unfold maxLen at hlen; omega)]
   refine ev_use (ih (i + 1) _ (by omega) (by simpa using hs)) ?_
   have h2 : i < st.length := by omega
   rw [List.take_succ_eq_append_getElem (by simpa using h2)]
   simp [List.take_set_of_le]
 have := key l.length 0 (List.replicate l.length y) (by omega) (by simp)
 simpa using this
theorem eq_loop {α : Type} (l : List α) (z : α) (g : Nat → Int → Option Bool) (e : Nat → α → Option Bool) (hlen : l.length ≤ maxLen)
  (hin : ∀ k (i : Nat), i < l.length → g (k + 1) (i : Int) = (e k (l.getD i z)).bind fun t => if t = true then g k (wrap64 ((i : Int) + 1)) else some false)
  (hend : ∀ k, g (k + 1) (l.length : Int) = some true)
  (he : ∀ x ∈ l, Ev (fun k => e k x) true) : Ev (fun k => g k 0) true := by
 have key : ∀ d i, i + d = l.length → Ev (fun k => g k (i : Int)) true := by
  intro d
  induction d with
  | zero =>
   intro i hi
   have e : i = l.length := by omega
   subst e
   exact Ev.step (by intro k; rw [hend]) (Ev.now true)
  | succ d ih =>
   intro i hi
   have h : i < l.length := by omega
   refine Ev.step (fun k => hin k i h) ?_
   refine Ev.bind (he _ (getD_mem l i z h)) ?_
   refine ev_pos rfl ?_
   rw [inc i (by unfold maxLen at hlen; omega)]
   exact ih (i + 1) (by omega)
 exact key l.length 0 (by omega)
theorem sz_cut' {left : Int} {n : Nat} {w : Int} {f : Nat → Option Int} (hl : Room left) (hw : 0 ≤ w)
  (h : (n : Int) ≤ left → Room (left - n) → Ev f (szOut (left - n) w)) : Ev (fun k => if left - (n : Int) < 0 then some (-1) else f k) (szOut left (n + w)) := by
 by_cases h0 : left - (n : Int) < 0
 ·rw [szOut_neg (by omega)]; exact ev_pos h0 (Ev.now _)
 ·refine ev_neg h0 ?_; rw [← szOut_add (by omega) hw (by omega)]; exact h (by omega) (room_le hl (by omega) (by omega))
theorem room_all : Room 1048576 := by unfold Room; omega
theorem law_sz {w : Int} {g : Nat → Int → Option Int} {f : Nat → Option Bool} (hg : Sz g w) (h : w ≤ 1048576 → Ev f true) : Ev (fun k => (g k 1048576).bind fun t => if t < 0 then some true else f k) true := by
 refine Ev.bind (hg.2 1048576 room_all) ?_
 by_cases h0 : w ≤ 1048576
 ·rw [szOut_pos h0]; exact ev_neg (by omega) (h h0)
 ·rw [szOut_neg (by omega)]; exact ev_pos (by omega) (Ev.now _)
def w_StringS (l : List ByteArray) : Int := wList (fun s => (s.size : Int)) l
theorem w_StringS_nonneg (l : List ByteArray) : 0 ≤ w_StringS l := wList_nonneg fun x _ => by omega
theorem w_StringS_len (l : List ByteArray) : (l.length : Int) ≤ w_StringS l := wList_len fun x _ => by omega
theorem w_StringS_mem {l : List ByteArray} {x : ByteArray} (hx : x ∈ l) : (x.size : Int) ≤ w_StringS l := wList_mem (w := fun s : ByteArray => (s.size : Int)) (fun x _ => by omega) hx
end Go.Proofs.YtieohddolkeegaaGreatDoor.U

end
section
namespace Go.Proofs.YtieohddolkeegaaGreatDoor.U
open Go Go.RowKit Go.Proofs.YtieohddolkeegaaGreatDoorW.PrintWords Go.Proofs.YtieohddolkeegaaGreatDoor.G
set_option linter.unusedVariables false
set_option maxRecDepth 100000
def w_Sum (f0 : ByteArray) (f1 : ByteArray) : Int := (f0.size : Int) + ((f1.size : Int) + (0))
theorem w_Sum_nonneg (f0 : ByteArray) (f1 : ByteArray) : 0 ≤ w_Sum f0 f1 := by
 unfold w_Sum
 omega
def w_SumS (l : List S185) : Int := wList (fun x => w_Sum x.f0 x.f1) l
theorem w_SumS_nonneg (l : List S185) : 0 ≤ w_SumS l := wList_nonneg fun x _ => w_Sum_nonneg _ _
theorem w_SumS_len (l : List S185) : (l.length : Int) ≤ w_SumS l := wList_len fun x _ => w_Sum_nonneg _ _
theorem w_SumS_mem {l : List S185} {x : S185} (hx : x ∈ l) : w_Sum x.f0 x.f1 ≤ w_SumS l := wList_mem (w := fun x : S185 => w_Sum x.f0 x.f1) (fun x _ => w_Sum_nonneg _ _) hx
def w_Pack (f0 : ByteArray) (f1 : ByteArray) (f2 : ByteArray) (f3 : List S185) (f4 : Bool) (f5 : List ByteArray) : Int := (f0.size : Int) + ((f1.size : Int) + ((f2.size : Int) + (w_SumS f3 + (w_StringS f5 + (0)))))
theorem w_Pack_nonneg (f0 : ByteArray) (f1 : ByteArray) (f2 : ByteArray) (f3 : List S185) (f4 : Bool) (f5 : List ByteArray) : 0 ≤ w_Pack f0 f1 f2 f3 f4 f5 := by
 unfold w_Pack
 have := w_SumS_nonneg f3
 have := w_StringS_nonneg f5
 omega
def w_PackS (l : List S139) : Int := wList (fun x => w_Pack x.f0 x.f1 x.f2 x.f3 x.f4 x.f5) l
theorem w_PackS_nonneg (l : List S139) : 0 ≤ w_PackS l := wList_nonneg fun x _ => w_Pack_nonneg _ _ _ _ _ _
theorem w_PackS_len (l : List S139) : (l.length : Int) ≤ w_PackS l := wList_len fun x _ => w_Pack_nonneg _ _ _ _ _ _
theorem w_PackS_mem {l : List S139} {x : S139} (hx : x ∈ l) : w_Pack x.f0 x.f1 x.f2 x.f3 x.f4 x.f5 ≤ w_PackS l := wList_mem (w := fun x : S139 => w_Pack x.f0 x.f1 x.f2 x.f3 x.f4 x.f5) (fun x _ => w_Pack_nonneg _ _ _ _ _ _) hx
def w_Graph (f0 : List ByteArray) (f1 : List S139) : Int := w_StringS f0 + (w_PackS f1 + (0))
theorem w_Graph_nonneg (f0 : List ByteArray) (f1 : List S139) : 0 ≤ w_Graph f0 f1 := by
 unfold w_Graph
 have := w_StringS_nonneg f0
 have := w_PackS_nonneg f1
 omega
theorem toStringS_ok (l : List ByteArray) (h : l.length ≤ maxLen ∧ ∀ x_ ∈ l, x_.size ≤ maxLen) (hw : w_StringS l ≤ 1048576) : Ev (fun k => laws_toStringS.f k l) (l) := by
 have hl := w_StringS_len l
 have e : ((l.length : Int)).toNat = l.length := Int.toNat_natCast _
 unfold laws_toStringS.f
 rw [e]
 refine ev_pos (by omega) (ev_pos (by omega) ?_)
 have := to_loop l ByteArray.empty (⟨#[]⟩ : ByteArray) id (fun k i st => laws_toStringS.l0 k l st i) h.1 ?_ ?_
 ·rw [List.map_id] at this; exact this
 ·intro k i st hi hs
  show laws_toStringS.l0 (k + 1) l st (i : Int) = _
  rw [laws_toStringS.l0, if_pos (by omega), if_pos (by omega), if_pos (by omega)]
  rfl
 ·intro k st
  show laws_toStringS.l0 (k + 1) l st (l.length : Int) = _
  rw [laws_toStringS.l0, if_neg (by omega)]
def t_Sum (x : S185) : S130 := ⟨x.f0, x.f1⟩
theorem toSumS_ok (l : List S185) (h : l.length ≤ maxLen ∧ ∀ x_ ∈ l, (x_.f0.size ≤ maxLen ∧ x_.f1.size ≤ maxLen)) (hw : w_SumS l ≤ 1048576) : Ev (fun k => laws_toSumS.f k l) (l.map t_Sum) := by
 have hl := w_SumS_len l
 have e : ((l.length : Int)).toNat = l.length := Int.toNat_natCast _
 unfold laws_toSumS.f
 rw [e]
 refine ev_pos (by omega) (ev_pos (by omega) ?_)
 refine to_loop l z185 _ t_Sum (fun k i st => laws_toSumS.l0 k l st i) h.1 ?_ ?_
 ·intro k i st hi hs
  show laws_toSumS.l0 (k + 1) l st (i : Int) = _
  rw [laws_toSumS.l0, if_pos (by omega), if_pos (by omega)]
  show (if (i : Int) < (st.length : Int) then _ else none) = _
  rw [if_pos (by omega)]
  rfl
 ·intro k st
  show laws_toSumS.l0 (k + 1) l st (l.length : Int) = _
  rw [laws_toSumS.l0, if_neg (by omega)]
theorem toPack_ok (f0 : ByteArray) (h0 : f0.size ≤ maxLen) (f1 : ByteArray) (h1 : f1.size ≤ maxLen) (f2 : ByteArray) (h2 : f2.size ≤ maxLen) (f3 : List S185) (h3 : (f3.length ≤ maxLen ∧ ∀ x_ ∈ f3, (x_.f0.size ≤ maxLen ∧ x_.f1.size ≤ maxLen))) (f4 : Bool)  (f5 : List ByteArray) (h5 : (f5.length ≤ maxLen ∧ ∀ x_ ∈ f5, x_.size ≤ maxLen)) (hw : w_Pack f0 f1 f2 f3 f4 f5 ≤ 1048576) : Ev (fun k => laws_toPack.f k f0 f1 f2 f3 f4 f5) (f0, f1, f2, (f3.map t_Sum), f4, f5) := by
 unfold laws_toPack.f
 unfold w_Pack at hw
 have nf3 := w_SumS_nonneg f3
 have nf5 := w_StringS_nonneg f5
 refine Ev.bind (toSumS_ok f3 h3 (by omega)) ?_
 refine Ev.bind (toStringS_ok f5 h5 (by omega)) ?_
 exact Ev.now _
def t_Pack (x : S139) : S47 := ⟨x.f0, x.f1, x.f2, (x.f3.map t_Sum), x.f4, x.f5⟩
theorem toPackS_ok (l : List S139) (h : l.length ≤ maxLen ∧ ∀ x_ ∈ l, (x_.f0.size ≤ maxLen ∧ (x_.f1.size ≤ maxLen ∧ (x_.f2.size ≤ maxLen ∧ ((x_.f3.length ≤ maxLen ∧ ∀ xx_ ∈ x_.f3, (xx_.f0.size ≤ maxLen ∧ xx_.f1.size ≤ maxLen)) ∧ (True ∧ (x_.f5.length ≤ maxLen ∧ ∀ xx_ ∈ x_.f5, xx_.size ≤ maxLen))))))) (hw : w_PackS l ≤ 1048576) : Ev (fun k => laws_toPackS.f k l) (l.map t_Pack) := by
 have hl := w_PackS_len l
 have e : ((l.length : Int)).toNat = l.length := Int.toNat_natCast _
 unfold laws_toPackS.f
 rw [e]
 refine ev_pos (by omega) (ev_pos (by omega) ?_)
 refine to_loop2 l z139 _ t_Pack (fun k i st => laws_toPackS.l0 k l st i) (fun k x => (laws_toPack.f k x.f0 x.f1 x.f2 x.f3 x.f4 x.f5).bind fun b => some ⟨b.1, b.2.1, b.2.2.1, b.2.2.2.1, b.2.2.2.2.1, b.2.2.2.2.2⟩) h.1 ?_ ?_ ?_
 ·intro k i st hi hs
  show laws_toPackS.l0 (k + 1) l st (i : Int) = _
  rw [laws_toPackS.l0, if_pos (by omega), if_pos (by omega), Option.bind_assoc]
  refine Option.bind_congr fun b _ => ?_
  show (if (i : Int) < (st.length : Int) then _ else none) = _
  rw [if_pos (by omega)]
  rfl
 ·intro k st
  show laws_toPackS.l0 (k + 1) l st (l.length : Int) = _
  rw [laws_toPackS.l0, if_neg (by omega)]
 ·intro x hx
  have hx' := h.2 x hx
  have hm := w_PackS_mem hx
  exact Ev.bind (toPack_ok x.f0 hx'.1 x.f1 hx'.2.1 x.f2 hx'.2.2.1 x.f3 hx'.2.2.2.1 x.f4 x.f5 hx'.2.2.2.2.2 (by omega)) (Ev.now _)
theorem toGraph_ok (f0 : List ByteArray) (h0 : (f0.length ≤ maxLen ∧ ∀ x_ ∈ f0, x_.size ≤ maxLen)) (f1 : List S139) (h1 : (f1.length ≤ maxLen ∧ ∀ x_ ∈ f1, (x_.f0.size ≤ maxLen ∧ (x_.f1.size ≤ maxLen ∧ (x_.f2.size ≤ maxLen ∧ ((x_.f3.length ≤ maxLen ∧ ∀ xx_ ∈ x_.f3, (xx_.f0.size ≤ maxLen ∧ xx_.f1.size ≤ maxLen)) ∧ (True ∧ (x_.f5.length ≤ maxLen ∧ ∀ xx_ ∈ x_.f5, xx_.size ≤ maxLen)))))))) (hw : w_Graph f0 f1 ≤ 1048576) : Ev (fun k => laws_toGraph.f k f0 f1) (f0, (f1.map t_Pack)) := by
 unfold laws_toGraph.f
 unfold w_Graph at hw
 have nf0 := w_StringS_nonneg f0
 have nf1 := w_PackS_nonneg f1
 refine Ev.bind (toStringS_ok f0 h0 (by omega)) ?_
 refine Ev.bind (toPackS_ok f1 h1 (by omega)) ?_
 exact Ev.now _
theorem szStringS_ok (l : List ByteArray) (h : l.length ≤ maxLen ∧ ∀ x_ ∈ l, x_.size ≤ maxLen) : Sz (fun k left => laws_szStringS.f k l left) (w_StringS l) := by
 have hs : ∀ x ∈ l, Sz (fun _ left => if wrap64 (left - (x.size : Int)) < 0 then some (-1) else some (wrap64 (left - (x.size : Int)))) (x.size : Int) := fun x hx => ⟨by omega, fun left hr => sz_last hr (h.2 x hx)⟩
 refine ⟨w_StringS_nonneg l, fun left hr => ?_⟩
 show Ev (fun k => laws_szStringS.f k l left) _
 unfold laws_szStringS.f w_StringS wList
 rw [room_sub hr h.1]
 refine sz_cut' hr (sumW_nonneg fun x hx => (hs x hx).1) fun hb hr => ?_
 refine sz_loop l ByteArray.empty (fun s => (s.size : Int)) (fun k i st => laws_szStringS.l0 k l st i) (fun _ x left => if wrap64 (left - (x.size : Int)) < 0 then some (-1) else some (wrap64 (left - (x.size : Int)))) h.1 ?_ ?_ hs _ hr
 ·intro k i st hi
  show laws_szStringS.l0 (k + 1) l st (i : Int) = _
  rw [laws_szStringS.l0, if_pos (by omega), if_pos (by omega)]
  show (if wrap64 (st - ((l.getD i ByteArray.empty).size : Int)) < 0 then some (-1) else laws_szStringS.l0 k l (wrap64 (st - ((l.getD i ByteArray.empty).size : Int))) (wrap64 ((i : Int) + 1))) = _
  generalize wrap64 (st - ((l.getD i ByteArray.empty).size : Int)) = y
  by_cases hy : y < 0
  ·simp only [if_pos hy]; rfl
  ·simp only [if_neg hy]; show _ = (if y < 0 then _ else _); rw [if_neg hy]
 ·intro k st
  show laws_szStringS.l0 (k + 1) l st (l.length : Int) = _
  rw [laws_szStringS.l0, if_neg (by omega)]
theorem szSum_ok (f0 : ByteArray) (h0 : f0.size ≤ maxLen) (f1 : ByteArray) (h1 : f1.size ≤ maxLen) : Sz (fun k left => laws_szSum.f f0 f1 left) (w_Sum f0 f1) := by
 refine ⟨w_Sum_nonneg f0 f1, fun left hr => ?_⟩
 show Ev (fun k => laws_szSum.f f0 f1 left) _
 unfold laws_szSum.f w_Sum
 rw [room_sub hr h0]
 refine sz_cut' hr (by omega) fun hb hr => ?_
 rw [room_sub hr h1]
 refine sz_cut' hr (by omega) fun hb hr => ?_
 exact sz_done hr
theorem szSumS_ok (l : List S185) (h : l.length ≤ maxLen ∧ ∀ x_ ∈ l, (x_.f0.size ≤ maxLen ∧ x_.f1.size ≤ maxLen)) : Sz (fun k left => laws_szSumS.f k l left) (w_SumS l) := by
 have hs : ∀ x ∈ l, Sz (fun k left => laws_szSum.f x.f0 x.f1 left) (w_Sum x.f0 x.f1) := fun x hx => by
  have hx' := h.2 x hx
  exact szSum_ok x.f0 hx'.1 x.f1 hx'.2
 refine ⟨w_SumS_nonneg l, fun left hr => ?_⟩
 show Ev (fun k => laws_szSumS.f k l left) _
 unfold laws_szSumS.f w_SumS wList
 rw [room_sub hr h.1]
 refine sz_cut' hr (sumW_nonneg fun x hx => (hs x hx).1) fun hb hr => ?_
 refine sz_loop l z185 (fun x => w_Sum x.f0 x.f1) (fun k i st => laws_szSumS.l0 k l st i) (fun k x left => laws_szSum.f x.f0 x.f1 left) h.1 ?_ ?_ hs _ hr
 ·intro k i st hi
  show laws_szSumS.l0 (k + 1) l st (i : Int) = _
  rw [laws_szSumS.l0, if_pos (by omega), if_pos (by omega)]
  rfl
 ·intro k st
  show laws_szSumS.l0 (k + 1) l st (l.length : Int) = _
  rw [laws_szSumS.l0, if_neg (by omega)]
theorem szPack_ok (f0 : ByteArray) (h0 : f0.size ≤ maxLen) (f1 : ByteArray) (h1 : f1.size ≤ maxLen) (f2 : ByteArray) (h2 : f2.size ≤ maxLen) (f3 : List S185) (h3 : (f3.length ≤ maxLen ∧ ∀ x_ ∈ f3, (x_.f0.size ≤ maxLen ∧ x_.f1.size ≤ maxLen))) (f4 : Bool)  (f5 : List ByteArray) (h5 : (f5.length ≤ maxLen ∧ ∀ x_ ∈ f5, x_.size ≤ maxLen)) : Sz (fun k left => laws_szPack.f k f0 f1 f2 f3 f4 f5 left) (w_Pack f0 f1 f2 f3 f4 f5) := by
 refine ⟨w_Pack_nonneg f0 f1 f2 f3 f4 f5, fun left hr => ?_⟩
 show Ev (fun k => laws_szPack.f k f0 f1 f2 f3 f4 f5 left) _
 unfold laws_szPack.f w_Pack
 have nf3 := w_SumS_nonneg f3
 have nf5 := w_StringS_nonneg f5
 rw [room_sub hr h0]
 refine sz_cut' hr (by omega) fun hb hr => ?_
 rw [room_sub hr h1]
 refine sz_cut' hr (by omega) fun hb hr => ?_
 rw [room_sub hr h2]
 refine sz_cut' hr (by omega) fun hb hr => ?_
 refine sz_call (g := fun k left => laws_szSumS.f k f3 left) (szSumS_ok f3 h3) hr (by omega) fun hb hr => ?_
 refine sz_call (g := fun k left => laws_szStringS.f k f5 left) (szStringS_ok f5 h5) hr (by omega) fun hb hr => ?_
 exact sz_done hr
theorem szPackS_ok (l : List S139) (h : l.length ≤ maxLen ∧ ∀ x_ ∈ l, (x_.f0.size ≤ maxLen ∧ (x_.f1.size ≤ maxLen ∧ (x_.f2.size ≤ maxLen ∧ ((x_.f3.length ≤ maxLen ∧ ∀ xx_ ∈ x_.f3, (xx_.f0.size ≤ maxLen ∧ xx_.f1.size ≤ maxLen)) ∧ (True ∧ (x_.f5.length ≤ maxLen ∧ ∀ xx_ ∈ x_.f5, xx_.size ≤ maxLen))))))) : Sz (fun k left => laws_szPackS.f k l left) (w_PackS l) := by
 have hs : ∀ x ∈ l, Sz (fun k left => laws_szPack.f k x.f0 x.f1 x.f2 x.f3 x.f4 x.f5 left) (w_Pack x.f0 x.f1 x.f2 x.f3 x.f4 x.f5) := fun x hx => by
  have hx' := h.2 x hx
  exact szPack_ok x.f0 hx'.1 x.f1 hx'.2.1 x.f2 hx'.2.2.1 x.f3 hx'.2.2.2.1 x.f4 x.f5 hx'.2.2.2.2.2
 refine ⟨w_PackS_nonneg l, fun left hr => ?_⟩
 show Ev (fun k => laws_szPackS.f k l left) _
 unfold laws_szPackS.f w_PackS wList
 rw [room_sub hr h.1]
 refine sz_cut' hr (sumW_nonneg fun x hx => (hs x hx).1) fun hb hr => ?_
 refine sz_loop l z139 (fun x => w_Pack x.f0 x.f1 x.f2 x.f3 x.f4 x.f5) (fun k i st => laws_szPackS.l0 k l st i) (fun k x left => laws_szPack.f k x.f0 x.f1 x.f2 x.f3 x.f4 x.f5 left) h.1 ?_ ?_ hs _ hr
 ·intro k i st hi
  show laws_szPackS.l0 (k + 1) l st (i : Int) = _
  rw [laws_szPackS.l0, if_pos (by omega), if_pos (by omega)]
  rfl
 ·intro k st
  show laws_szPackS.l0 (k + 1) l st (l.length : Int) = _
  rw [laws_szPackS.l0, if_neg (by omega)]
theorem szGraph_ok (f0 : List ByteArray) (h0 : (f0.length ≤ maxLen ∧ ∀ x_ ∈ f0, x_.size ≤ maxLen)) (f1 : List S139) (h1 : (f1.length ≤ maxLen ∧ ∀ x_ ∈ f1, (x_.f0.size ≤ maxLen ∧ (x_.f1.size ≤ maxLen ∧ (x_.f2.size ≤ maxLen ∧ ((x_.f3.length ≤ maxLen ∧ ∀ xx_ ∈ x_.f3, (xx_.f0.size ≤ maxLen ∧ xx_.f1.size ≤ maxLen)) ∧ (True ∧ (x_.f5.length ≤ maxLen ∧ ∀ xx_ ∈ x_.f5, xx_.size ≤ maxLen)))))))) : Sz (fun k left => laws_szGraph.f k f0 f1 left) (w_Graph f0 f1) := by
 refine ⟨w_Graph_nonneg f0 f1, fun left hr => ?_⟩
 show Ev (fun k => laws_szGraph.f k f0 f1 left) _
 unfold laws_szGraph.f w_Graph
 have nf0 := w_StringS_nonneg f0
 have nf1 := w_PackS_nonneg f1
 refine sz_call (g := fun k left => laws_szStringS.f k f0 left) (szStringS_ok f0 h0) hr (by omega) fun hb hr => ?_
 refine sz_call (g := fun k left => laws_szPackS.f k f1 left) (szPackS_ok f1 h1) hr (by omega) fun hb hr => ?_
 exact sz_done hr
theorem eqStringS_ok (l : List ByteArray) (h : l.length ≤ maxLen) : Ev (fun k => laws_eqStringS.f k l l) true := by
 unfold laws_eqStringS.f
 refine ev_pos rfl ?_
 refine eq_loop l ByteArray.empty (fun k i => laws_eqStringS.l0 k l l i) (fun _ x => some true) h ?_ ?_ (fun _ _ => Ev.now _)
 ·intro k i hi
  show laws_eqStringS.l0 (k + 1) l l (i : Int) = _
  rw [laws_eqStringS.l0, if_pos (by omega), if_pos (by omega), if_pos (by omega), if_pos rfl]
  rfl
 ·intro k
  show laws_eqStringS.l0 (k + 1) l l (l.length : Int) = _
  rw [laws_eqStringS.l0, if_neg (by omega)]
theorem eqSum_ok (f0 : ByteArray)  (f1 : ByteArray)  : Ev (fun k => laws_eqSum.f f0 f1 f0 f1) true := by
 unfold laws_eqSum.f
 refine ev_pos rfl ?_
 refine ev_pos rfl ?_
 exact Ev.now _
theorem eqSumS_ok (l : List S130) (h : l.length ≤ maxLen) : Ev (fun k => laws_eqSumS.f k l l) true := by
 unfold laws_eqSumS.f
 refine ev_pos rfl ?_
 refine eq_loop l z130 (fun k i => laws_eqSumS.l0 k l l i) (fun k x => laws_eqSum.f x.f0 x.f1 x.f0 x.f1) h ?_ ?_ (fun x hx => eqSum_ok x.f0 x.f1)
 ·intro k i hi
  show laws_eqSumS.l0 (k + 1) l l (i : Int) = _
  rw [laws_eqSumS.l0, if_pos (by omega), if_pos (by omega), if_pos (by omega)]
  rfl
 ·intro k
  show laws_eqSumS.l0 (k + 1) l l (l.length : Int) = _
  rw [laws_eqSumS.l0, if_neg (by omega)]
theorem eqPack_ok (f0 : ByteArray)  (f1 : ByteArray)  (f2 : ByteArray)  (f3 : List S130) (h3 : f3.length ≤ maxLen) (f4 : Bool)  (f5 : List ByteArray) (h5 : f5.length ≤ maxLen) : Ev (fun k => laws_eqPack.f k f0 f1 f2 f3 f4 f5 f0 f1 f2 f3 f4 f5) true := by
 unfold laws_eqPack.f
 refine ev_pos rfl ?_
 refine ev_pos rfl ?_
 refine ev_pos rfl ?_
 refine Ev.bind (eqSumS_ok f3 h3) ?_
 refine ev_pos rfl ?_
 refine ev_neg (by simp) ?_
 refine Ev.bind (eqStringS_ok f5 h5) ?_
 refine ev_pos rfl ?_
 exact Ev.now _
theorem eqPackS_ok (l : List S47) (h : (l.length ≤ maxLen ∧ ∀ x_ ∈ l, (x_.f3.length ≤ maxLen ∧ x_.f5.length ≤ maxLen))) : Ev (fun k => laws_eqPackS.f k l l) true := by
 unfold laws_eqPackS.f
 refine ev_pos rfl ?_
 refine eq_loop l z47 (fun k i => laws_eqPackS.l0 k l l i) (fun k x => laws_eqPack.f k x.f0 x.f1 x.f2 x.f3 x.f4 x.f5 x.f0 x.f1 x.f2 x.f3 x.f4 x.f5) h.1 ?_ ?_ (fun x hx => eqPack_ok x.f0 x.f1 x.f2 x.f3 (h.2 x hx).1 x.f4 x.f5 (h.2 x hx).2)
 ·intro k i hi
  show laws_eqPackS.l0 (k + 1) l l (i : Int) = _
  rw [laws_eqPackS.l0, if_pos (by omega), if_pos (by omega), if_pos (by omega)]
  rfl
 ·intro k
  show laws_eqPackS.l0 (k + 1) l l (l.length : Int) = _
  rw [laws_eqPackS.l0, if_neg (by omega)]
theorem eqGraph_ok (f0 : List ByteArray) (h0 : f0.length ≤ maxLen) (f1 : List S47) (h1 : (f1.length ≤ maxLen ∧ ∀ x_ ∈ f1, (x_.f3.length ≤ maxLen ∧ x_.f5.length ≤ maxLen))) : Ev (fun k => laws_eqGraph.f k f0 f1 f0 f1) true := by
 unfold laws_eqGraph.f
 refine Ev.bind (eqStringS_ok f0 h0) ?_
 refine ev_pos rfl ?_
 refine Ev.bind (eqPackS_ok f1 h1) ?_
 refine ev_pos rfl ?_
 exact Ev.now _
end Go.Proofs.YtieohddolkeegaaGreatDoor.U

end
section
namespace Go.Proofs.YtieohddolkeegaaGreatDoor.U
open Go Go.RowKit Go.Proofs.YtieohddolkeegaaGreatDoorW.PrintWords Go.Proofs.YtieohddolkeegaaGreatDoor.G
set_option linter.unusedVariables false
theorem markText_l : ∀ (n : Nat) (x0 : Int) (x3 : ByteArray), x0.toNat = n → x0 ≤ 4611686018427387904 → x3.size + n ≤ 4611686018427387908 → ∃ r, Ev (fun k => laws_markText.l0 k x0 x3) r := by
 intro n
 induction n using Nat.strongRecOn with
 | _ n ih =>
  intro x0 x3 hn hx h3
  by_cases h : x0 > 0
  ·have hq : Int.tdiv x0 10 = x0 / 10 := Int.tdiv_eq_ediv_of_nonneg (by omega)
   have e : wrap64 (Int.tdiv x0 10) = x0 / 10 := by rw [hq, w64 (by omega) (by omega)]
   have hone : (strOfNums [(wrap64 (48 + Int.tmod x0 10)) % 256]).size = 1 := by unfold strOfNums; rfl
   obtain ⟨r, hr⟩ := ih (x0 / 10).toNat (by omega) (x0 / 10) (strOfNums [(wrap64 (48 + Int.tmod x0 10)) % 256] ++ x3) rfl (by omega) (by rw [ByteArray.size_append, hone]; omega)
   refine ⟨r, Ev.step (fun k => ?_) hr⟩
   rw [laws_markText.l0, if_pos h, Option.bind_some, if_pos (by rw [hone]; omega), e]
  ·exact ⟨_, Ev.step (f := fun _ => some ((⟨#[109]⟩ : ByteArray) ++ x3)) (fun k => by rw [laws_markText.l0, if_neg h, if_pos (by omega)]) (Ev.now _)⟩
theorem markText_ex (a : Int) (h : a ≤ 4611686018427387904) : ∃ r, Ev (fun k => laws_markText.f k a) r := by
 unfold laws_markText.f
 by_cases h0 : a ≤ 0
 ·exact ⟨_, ev_pos h0 (Ev.now _)⟩
 ·obtain ⟨r, hr⟩ := markText_l a.toNat a ⟨#[]⟩ rfl h (by show 0 + _ ≤ _; omega)
  exact ⟨r, ev_neg h0 hr⟩
theorem mark_held {α : Type} (z : α) (g : Nat → List α → Int → Int → Option (Int × List α)) (h : Nat → List α → Int → Int → Option Int) (W : α → Nat)
  (gend : ∀ k x0 c, g (k + 1) x0 c (x0.length : Int) = some (c, x0)) (hend : ∀ k y c, h (k + 1) y c (y.length : Int) = some c)
  (step : ∀ (e : α) (c : Int), 0 ≤ c → c ≤ 2305843009213693952 → ∃ e' c', c ≤ c' ∧ c' ≤ c + W e ∧
   (∀ x0 (i : Nat) r, i < x0.length → i ≤ 140737488355328 → x0.getD i z = e → Ev (fun k => g k (x0.set i e') c' ((i + 1 : Nat) : Int)) r → Ev (fun k => g k x0 c (i : Int)) r) ∧
   (∀ y (i : Nat) r, i < y.length → i ≤ 140737488355328 → y.getD i z = e' → Ev (fun k => h k y c' ((i + 1 : Nat) : Int)) r → Ev (fun k => h k y c (i : Int)) r))
  (l : List α) (c : Int) (hl : l.length ≤ 140737488355328) (hc : 0 ≤ c) (hb : c + ((l.map W).sum : Nat) ≤ 2305843009213693952) :
  ∃ l' r, l'.length = l.length ∧ Ev (fun k => g k l c 0) (r, l') ∧ Ev (fun k => h k l' c 0) r ∧ c ≤ r ∧ r ≤ c + ((l.map W).sum : Nat) := by
 have key : ∀ d i (x0 : List α) (c : Int), i + d = x0.length → x0.length ≤ 140737488355328 → 0 ≤ c → c + (((x0.drop i).map W).sum : Nat) ≤ 2305843009213693952 →
   ∃ l' r, l'.length = x0.length ∧ l'.take i = x0.take i ∧ Ev (fun k => g k x0 c (i : Int)) (r, l') ∧ Ev (fun k => h k l' c (i : Int)) r ∧ c ≤ r ∧ r ≤ c + (((x0.drop i).map W).sum : Nat) := by
  intro d
  induction d with
  | zero =>
   intro i x0 c hi hm hc hb
   have e : i = x0.length := by omega
   subst e
   exact ⟨x0, c, rfl, rfl, Ev.step (f := fun _ => some (c, x0)) (fun k => gend k x0 c) (Ev.now _), Ev.step (f := fun _ => some c) (fun k => hend k x0 c) (Ev.now _), Int.le_refl _, by omega⟩
  | succ d ih =>
   intro i x0 c hi hm hc hb
   have hlt : i < x0.length := by omega
   rw [drop_getD x0 i z hlt, List.map_cons, List.sum_cons] at hb
   obtain ⟨e', c', h1, h2, h3, h4⟩ := step (x0.getD i z) c hc (by omega)
   have hd : (x0.set i e').drop (i + 1) = x0.drop (i + 1) := by rw [List.drop_set_of_lt (by omega)]
   obtain ⟨l', r, k1, k2, k3, k4, k5, k6⟩ := ih (i + 1) (x0.set i e') c' (by simpa using (by omega : i + 1 + d = x0.length)) (by simpa using hm) (by omega) (by rw [hd]; omega)
   rw [List.length_set] at k1
   have hi1 : i ≤ 140737488355328 := by omega
   refine ⟨l', r, k1, ?_, h3 x0 i _ hlt hi1 rfl k3, h4 l' i r (by omega) hi1 ?_ k4, by omega, ?_⟩
   ·have := congrArg (List.take i) k2
    rw [List.take_take, List.take_take, Nat.min_eq_left (by omega), List.take_set_of_le (Nat.le_refl _)] at this
    exact this
   ·have h5 : l'[i]? = (x0.set i e')[i]? := by
     have := congrArg (fun q : List α => q[i]?) k2
     simpa [List.getElem?_take] using this
    rw [List.getElem?_set_self hlt] at h5
    rw [List.getD_eq_getElem?_getD, h5]; rfl
   ·rw [hd] at k6
    rw [drop_getD x0 i z hlt, List.map_cons, List.sum_cons]; omega
 obtain ⟨l', r, k1, _, k3, k4, k5, k6⟩ := key l.length 0 l c (by omega) hl hc (by simpa using hb)
 exact ⟨l', r, k1, k3, k4, k5, by simpa using k6⟩
theorem cnt_loop {α : Type} (g : Nat → List α → Int → Int → Option (Int × List α)) (m : Nat)
  (gend : ∀ k x0 c, g (k + 1) x0 c (x0.length : Int) = some (c, x0))
  (step : ∀ (x0 : List α) (i : Nat) (c : Int), i < x0.length → i ≤ 140737488355328 → 0 ≤ c → c + m ≤ 2305843009213693952 → ∃ x1, x1.length = x0.length ∧ ∀ r, Ev (fun k => g k x1 (c + m) ((i + 1 : Nat) : Int)) r → Ev (fun k => g k x0 c (i : Int)) r) :
  ∀ d i (x0 : List α) (c : Int), i + d = x0.length → x0.length ≤ 140737488355328 → 0 ≤ c → c + (m * d : Nat) ≤ 2305843009213693952 → ∃ l', l'.length = x0.length ∧ Ev (fun k => g k x0 c (i : Int)) (c + (m * d : Nat), l') := by
 intro d
 induction d with
 | zero =>
  intro i x0 c hi hl h0 hb
  have e : i = x0.length := by omega
  subst e
  exact ⟨x0, rfl, ev_use (Ev.step (f := fun _ => some (c, x0)) (fun k => gend k x0 c) (Ev.now _)) (by simp)⟩
 | succ d ih =>
  intro i x0 c hi hl h0 hb
  rw [Nat.mul_succ] at hb ⊢
  obtain ⟨x1, h1, h2⟩ := step x0 i c (by omega) (by omega) h0 (by omega)
  obtain ⟨l', h3, h4⟩ := ih (i + 1) x1 (c + m) (by omega) (by omega) (by omega) (by omega)
  exact ⟨l', h3.trans h1, h2 _ (ev_use h4 (by rw [Prod.mk.injEq]; exact ⟨by omega, rfl⟩))⟩
theorem markStringS_cnt (l : List ByteArray) (c : Int) (hl : l.length ≤ 140737488355328) (h0 : 0 ≤ c) (hb : c + l.length ≤ 2305843009213693952) :
  ∃ l', l'.length = l.length ∧ Ev (fun k => laws_markStringS.f k l c) (c + l.length, l') := by
 have := cnt_loop (fun k x0 c i => laws_markStringS.l0 k x0 c i) 1
  (fun k x0 c => by show laws_markStringS.l0 (k + 1) x0 c _ = _; rw [laws_markStringS.l0, if_neg (by omega)])
  (fun x0 i c hi hi1 h0 h1 => by
   obtain ⟨m, hm⟩ := markText_ex c (by omega)
   refine ⟨x0.set i m, by simp, fun r hr => Ev.step (f := fun k => (laws_markText.f k c).bind fun t => laws_markStringS.l0 k (x0.set i t) (c + 1) ((i + 1 : Nat) : Int)) (fun k => ?_) (Ev.bind hm hr)⟩
   show laws_markStringS.l0 (k + 1) x0 c (i : Int) = _
   rw [laws_markStringS.l0, if_pos (by omega)]
   refine Option.bind_congr fun t _ => ?_
   rw [if_pos (by omega), Int.toNat_natCast, w64 (n := c + 1) (by omega) (by omega), wa1 i (by omega)])
  l.length 0 l c (by omega) hl h0 (by omega)
 obtain ⟨l', h1, h2⟩ := this
 exact ⟨l', h1, ev_use h2 (by rw [Prod.mk.injEq]; exact ⟨by omega, rfl⟩)⟩
theorem markSumS_cnt (l : List S130) (c : Int) (hl : l.length ≤ 140737488355328) (h0 : 0 ≤ c) (hb : c + 2 * l.length ≤ 2305843009213693952) :
  ∃ l', l'.length = l.length ∧ Ev (fun k => laws_markSumS.f k l c) (c + 2 * l.length, l') := by
 have := cnt_loop (fun k x0 c i => laws_markSumS.l0 k x0 c i) 2
  (fun k x0 c => by show laws_markSumS.l0 (k + 1) x0 c _ = _; rw [laws_markSumS.l0, if_neg (by omega)])
  (fun x0 i c hi hi1 h0 h1 => by
   obtain ⟨m, hm⟩ := markText_ex c (by omega)
   obtain ⟨m', hm'⟩ := markText_ex (c + 1) (by omega)
   refine ⟨_, ?_, fun r hr => Ev.step (f := fun k => (laws_markText.f k c).bind fun t => (laws_markText.f k (c + 1)).bind fun t' => laws_markSumS.l0 k ((x0.set i ⟨t, (rd_T130 x0 (i : Int)).f1⟩).set i ⟨(rd_T130 (x0.set i ⟨t, (rd_T130 x0 (i : Int)).f1⟩) (i : Int)).f0, t'⟩) (c + 2) ((i + 1 : Nat) : Int)) (fun k => ?_) (Ev.bind hm (Ev.bind hm' hr))⟩
   ·simp
   show laws_markSumS.l0 (k + 1) x0 c (i : Int) = _
   rw [laws_markSumS.l0, if_pos (by omega)]
   refine Option.bind_congr fun t _ => ?_
   rw [if_pos (by omega), Option.bind_some, Int.toNat_natCast, w64 (n := c + 1) (by omega) (by omega)]
   refine Option.bind_congr fun t' _ => ?_
   rw [w64 (n := c + 1 + 1) (by omega) (by omega), wa1 i (by omega), show c + 1 + 1 = c + 2 by omega])
  l.length 0 l c (by omega) hl h0 (by omega)
 obtain ⟨l', h1, h2⟩ := this
 exact ⟨l', h1, ev_use h2 (by rw [Prod.mk.injEq]; exact ⟨by omega, rfl⟩)⟩
def digits0 : ByteArray := ⟨#[48, 49, 50, 51, 52, 53, 54, 55, 56, 57]⟩
theorem digit_at (i : Nat) (h : i < 10) : digits0.extract i (i + 1) = S [UInt8.ofNat (48 + i)] := by
 apply L_inj
 rw [L_extract, L_S]
 have : ∀ j : Fin 10, ((L digits0).drop j.1).take (j.1 + 1 - j.1) = [UInt8.ofNat (48 + j.1)] := by decide
 exact this ⟨i, h⟩
def dig (u : Nat) : B := if u = 0 then [] else Lib.decDigits u
theorem dig_step (u : Nat) (h : u ≠ 0) : dig u = dig (u / 10) ++ [UInt8.ofNat (48 + u % 10)] := by
 unfold dig
 rw [if_neg h]
 by_cases h1 : u < 10
 ·rw [if_pos (by omega)]
  unfold Lib.decDigits
  rw [dif_pos h1, Nat.mod_eq_of_lt h1]; rfl
 ·rw [if_neg (by omega)]
  conv => lhs; unfold Lib.decDigits
  rw [dif_neg h1]
theorem dec_arith (x4 : Int) (u : Nat) (h4 : x4.natAbs = u) (hlo : -9223372036854775808 ≤ x4) (hhi : x4 ≤ 9223372036854775807) :
  (Int.tdiv x4 10).natAbs = u / 10 ∧ (Int.tmod x4 10).natAbs = u % 10 ∧ -922337203685477580 ≤ Int.tdiv x4 10 ∧ Int.tdiv x4 10 ≤ 922337203685477580 := by
 have hd : (Int.tdiv x4 10).natAbs = u / 10 := by rw [Int.natAbs_tdiv, h4]; rfl
 have hm : (Int.tmod x4 10).natAbs = u % 10 := by rw [Int.natAbs_tmod, h4]; rfl
 refine ⟨hd, hm, ?_, ?_⟩ <;> omega
theorem dec_idx (t : Int) (v : Nat) (hv : v < 10) (hm : t.natAbs = v) (hn : t < 0) : wrap64 (-t) = (v : Int) := by rw [w64 (by omega) (by omega)]; omega
theorem dec_end (x0 : Int) (x3 : ByteArray) (h : x3.size ≤ 40) (k : Nat) : spec_DecText.l0 (k + 1) x0 x3 0 = some (S ((if x0 < 0 then [45] else []) ++ (dig 0 ++ L x3))) := by
 rw [spec_DecText.l0, if_pos rfl]
 by_cases hn : x0 < 0
 ·rw [if_pos hn, if_pos hn, if_pos (by omega)]; rfl
 ·rw [if_neg hn, if_neg hn]; rfl
theorem dec_go (x0 x4 t q : Int) (x3 : ByteArray) (v : Nat) (hv : v < 10) (hx : ¬ x4 = 0) (hT : Int.tmod x4 10 = t) (hQ : Int.tdiv x4 10 = q) (hq : wrap64 q = q) (hm : t.natAbs = v) (h3 : x3.size ≤ 40) (k : Nat) :
  spec_DecText.l0 (k + 1) x0 x3 x4 = spec_DecText.l0 k x0 (S [UInt8.ofNat (48 + v)] ++ x3) q := by
 have hone : (S [UInt8.ofNat (48 + v)]).size = 1 := by rw [size_S]; rfl
 have e2 : wrap64 ((v : Int) + 1) = ((v + 1 : Nat) : Int) := wa1 _ (by omega)
 have e3 := digit_at v hv
 unfold digits0 at e3
 have b1 : (0 : Int) ≤ (v : Int) := by omega
 have b2 : (v : Int) ≤ ((v + 1 : Nat) : Int) := by omega
 have b3 : ((v + 1 : Nat) : Int) ≤ 10 := by omega
 have b4 : (S [UInt8.ofNat (48 + v)]).size + x3.size ≤ 9223372036854775807 := by rw [hone]; omega
 rw [spec_DecText.l0, if_neg hx, hT, hQ, hq]
 by_cases hn : t < 0
 ·rw [if_pos hn, dec_idx t v hv hm hn, e2, if_pos b1, if_pos b2, if_pos b3, Int.toNat_natCast, Int.toNat_natCast, e3, if_pos b4]
 ·have e1 : t = (v : Int) := by omega
  rw [if_neg hn, e1, e2, if_pos b1, if_pos b2, if_pos b3, Int.toNat_natCast, Int.toNat_natCast, e3, if_pos b4]
theorem spec_DecText_l (x0 : Int) : ∀ d (u : Nat) (x4 : Int) (x3 : ByteArray), u < 10 ^ d → x4.natAbs = u → -9223372036854775808 ≤ x4 → x4 ≤ 9223372036854775807 → x3.size + d ≤ 40 →
  Ev (fun k => spec_DecText.l0 k x0 x3 x4) (S ((if x0 < 0 then [45] else []) ++ (dig u ++ L x3))) := by
 intro d
 induction d with
 | zero =>
  intro u x4 x3 hu h4 _ _ hs
  have e2 : u = 0 := by simpa using hu
  subst e2
  have e : x4 = 0 := Int.natAbs_eq_zero.1 h4
  subst e
  exact Ev.step (f := fun _ => some _) (dec_end x0 x3 (by omega)) (Ev.now _)
 | succ d ih =>
  intro u x4 x3 hu h4 hlo hhi hs
  by_cases hz : u = 0
  ·subst hz
   have e : x4 = 0 := Int.natAbs_eq_zero.1 h4
   subst e
   exact Ev.step (f := fun _ => some _) (dec_end x0 x3 (by omega)) (Ev.now _)
  ·have hx : ¬ x4 = 0 := fun e => hz (by rw [← h4, e]; rfl)
   obtain ⟨hd, hm, q1, q2⟩ := dec_arith x4 u h4 hlo hhi
   have h10 : u / 10 < 10 ^ d := by rw [Nat.div_lt_iff_lt_mul (by decide)]; rw [Nat.pow_succ] at hu; exact hu
   have hone : (S [UInt8.ofNat (48 + u % 10)]).size = 1 := by rw [size_S]; rfl
   clear hu h4
   rw [dig_step u hz]
   refine Ev.step (dec_go x0 x4 _ _ x3 (u % 10) (Nat.mod_lt _ (by decide)) hx rfl rfl (w64 (by omega) (by omega)) hm (by omega)) ?_
   refine ev_use (ih (u / 10) _ (S [UInt8.ofNat (48 + u % 10)] ++ x3) h10 hd (by omega) (by omega) (by rw [ByteArray.size_append, hone]; omega)) ?_
   rw [L_append, L_S]; simp
theorem itoa_dig (n : Int) (h : n ≠ 0) : Lib.itoa n = (if n < 0 then [45] else []) ++ dig n.natAbs := by
 unfold Lib.itoa dig
 by_cases hn : n < 0
 ·rw [if_pos hn, if_pos hn, if_neg (by omega)]; rfl
 ·rw [if_neg hn, if_neg hn, if_neg (by omega)]
  have : n.toNat = n.natAbs := by omega
  rw [this]; rfl
theorem spec_DecText_ev (n : Int) (h0 : -9223372036854775808 ≤ n) (h1 : n ≤ 9223372036854775807) : Ev (fun k => spec_DecText.f k n) (S (Lib.itoa n)) := by
 unfold spec_DecText.f
 by_cases h : n = 0
 ·subst h; refine ev_pos rfl (ev_use (Ev.now _) ?_)
  apply L_inj; rw [L_S]; unfold Lib.itoa; rw [if_neg (by omega)]; unfold Lib.decDigits; rw [dif_pos (by decide)]; rfl
 ·refine ev_neg h ?_
  rw [itoa_dig n h]
  refine ev_use (spec_DecText_l n 20 n.natAbs n ⟨#[]⟩ (by omega) rfl h0 h1 (by decide)) ?_
  congr 1
  show _ ++ (_ ++ ([] : B)) = _
  rw [List.append_nil]
theorem impl_DecText_eq (n : Int) (h0 : -9223372036854775808 ≤ n) (h1 : n ≤ 9223372036854775807) : impl_DecText.f n = some (S (Lib.itoa n)) := by
 unfold impl_DecText.f strconv_Itoa.f
 rw [if_pos ⟨h0, h1⟩]; rfl
def cutP (c : UInt8) : B → B → List B
 | p, [] => [p]
 | p, x :: l => if x = c then p :: cutP c [] l else cutP c (p ++ [x]) l
theorem cutP_len (c : UInt8) : ∀ l p, 1 ≤ (cutP c p l).length ∧ (cutP c p l).length ≤ l.length + 1 := by
 intro l
 induction l with
 | nil => intro p; simp [cutP]
 | cons x l ih =>
  intro p
  unfold cutP
  by_cases h : x = c
  ·rw [if_pos h]; have := ih []; simp only [List.length_cons]; omega
  ·rw [if_neg h]; have := ih (p ++ [x]); simp only [List.length_cons]; omega
theorem spec_l01Cut_l (s : ByteArray) (c : UInt8) (hs : s.size ≤ 1048576) : ∀ d j (a : Nat) (x5 : List ByteArray), j + d = (L s).length → a ≤ j → x5.length ≤ j →
  Ev (fun k => spec_l01Cut.l0 k s (c.toNat : Int) x5 (a : Int) (j : Int)) (x5 ++ (cutP c (((L s).take j).drop a) ((L s).drop j)).map S) := by
 rw [size_L] at hs
 intro d
 induction d with
 | zero =>
  intro j a x5 hj ha h5
  have e : j = (L s).length := by omega
  subst e
  rw [List.drop_length, List.take_length]
  refine Ev.step (f := fun _ => some (x5 ++ (cutP c ((L s).drop a) []).map S)) (fun k => ?_) (Ev.now _)
  have e1 : s.extract (((a : Nat) : Int)).toNat s.size = S ((L s).drop a) := by
   apply L_inj; rw [L_extract, L_S, Int.toNat_natCast, size_L, List.take_of_length_le (by rw [List.length_drop]; omega)]
  rw [spec_l01Cut.l0, if_neg (by rw [size_L]; omega), if_pos (by omega), if_pos (by rw [size_L]; omega), if_pos (by omega), e1]
  rfl
 | succ d ih =>
  intro j a x5 hj ha h5
  have h : j < (L s).length := by omega
  rw [drop_at (L s) j h]
  by_cases hc : at_ (L s) j = c
  ·have e1 : s.extract (((a : Nat) : Int)).toNat ((j : Int)).toNat = S (((L s).take j).drop a) := by
    apply L_inj; rw [L_extract, L_S, Int.toNat_natCast, Int.toNat_natCast, List.drop_take]
   refine Ev.step (f := fun k => spec_l01Cut.l0 k s (c.toNat : Int) (x5 ++ [S (((L s).take j).drop a)]) ((j + 1 : Nat) : Int) ((j + 1 : Nat) : Int)) (fun k => ?_) ?_
   ·rw [spec_l01Cut.l0, if_pos (by rw [size_L]; omega), if_pos (by omega), bt_nat, if_pos (by rw [hc]), if_pos (by omega), if_pos (by omega), if_pos (by rw [size_L]; omega), if_pos (by omega), e1, wa1 j (by omega)]
   ·refine ev_use (ih (j + 1) (j + 1) _ (by omega) (Nat.le_refl _) (by rw [List.length_append]; simp; omega)) ?_
    have e2 : ((L s).take (j + 1)).drop (j + 1) = [] := List.drop_eq_nil_of_le (by rw [List.length_take]; omega)
    rw [e2]
    conv => rhs; unfold cutP
    rw [if_pos hc, List.map_cons, List.append_assoc]; rfl
  ·have hb : ¬ ((at_ (L s) j).toNat : Int) = (c.toNat : Int) := fun e => hc (byte_inj e)
   refine Ev.step (f := fun k => spec_l01Cut.l0 k s (c.toNat : Int) x5 (a : Int) ((j + 1 : Nat) : Int)) (fun k => ?_) ?_
   ·rw [spec_l01Cut.l0, if_pos (by rw [size_L]; omega), if_pos (by omega), bt_nat, if_neg hb, wa1 j (by omega)]
   ·refine ev_use (ih (j + 1) a x5 (by omega) (by omega) (by omega)) ?_
    have e2 : ((L s).take (j + 1)).drop a = ((L s).take j).drop a ++ [at_ (L s) j] := by
     rw [take_at (L s) j h, List.drop_append_of_le_length (by rw [List.length_take]; omega)]
    rw [e2]
    conv => rhs; unfold cutP
    rw [if_neg hc]
theorem spec_l01Cut_ev (s : ByteArray) (c : UInt8) (hs : s.size ≤ 1048576) : Ev (fun k => spec_l01Cut.f k s (c.toNat : Int)) ((cutP c [] (L s)).map S) := by
 have := spec_l01Cut_l s c hs (L s).length 0 0 [] (by omega) (by omega) (by simp)
 unfold spec_l01Cut.f
 simpa using this
theorem index_free (c : UInt8) : ∀ (p l : B), c ∉ p → Lib.indexByte (p ++ c :: l) c = (p.length : Int) := by
 intro p
 induction p with
 | nil => intro l _; simp [Lib.indexByte]
 | cons x p ih =>
  intro l h
  simp only [List.mem_cons, not_or] at h
  have hx : ¬ x = c := fun e => h.1 e.symm
  have := ih l h.2
  rw [List.cons_append]
  unfold Lib.indexByte
  rw [if_neg (by simpa using hx), this, if_neg (by simp), List.length_cons]; omega
theorem splitK_cut (c : UInt8) : ∀ (l p : B), c ∉ p → Lib.splitK [c] 0 ((p ++ l).count c) (p ++ l) = cutP c p l := by
 intro l
 induction l with
 | nil =>
  intro p hp
  rw [List.append_nil, List.count_eq_zero_of_not_mem hp]; rfl
 | cons x l ih =>
  intro p hp
  unfold cutP
  by_cases h : x = c
  ·subst h
   rw [if_pos rfl]
   have e : (p ++ x :: l).count x = l.count x + 1 := by rw [List.count_append, List.count_eq_zero_of_not_mem hp, List.count_cons_self]; omega
   have ei : Lib.index (p ++ x :: l) [x] = (p.length : Int) := by rw [Lib.index_one, index_free x p l hp]
   rw [e, Lib.splitK, if_neg (by rw [ei]; simp), ei, Int.toNat_natCast, List.take_left']
   ·have ed : (p ++ x :: l).drop (p.length + [x].length) = l := by rw [List.drop_append]; simp
    rw [ed]; congr 1
    exact ih [] (by simp)
   ·simp
  ·rw [if_neg h]
   have := ih (p ++ [x]) (by simp only [List.mem_append, List.mem_singleton, not_or]; exact ⟨hp, fun e => h e.symm⟩)
   rw [List.append_assoc] at this; exact this
theorem split_one (s : ByteArray) (c : UInt8) (hs : s.size ≤ 1048576) : strings_Split.f s (S [c]) = some ((cutP c [] (L s)).map S) := by
 unfold strings_Split.f
 rw [if_pos ⟨by omega, by simp⟩]
 congr 1
 have e1 : (S [c]).data.toList = [c] := L_S [c]
 have e2 : Lib.countB s (S [c]) = (L s).count c := by
  show Lib.count s.data.toList (S [c]).data.toList = _
  rw [e1, Lib.count_one]; rfl
 have e3 := Lib.splitB_data (S [c]) 0 (Lib.countB s (S [c])) s
 rw [e1, e2] at e3
 have e4 := splitK_cut c (L s) [] (by simp)
 rw [List.nil_append] at e4
 rw [e2]
 have e5 : (Lib.splitB (S [c]) 0 ((L s).count c) s).map L = cutP c [] (L s) := e3.trans e4
 rw [← e5, List.map_map]
 have : (S ∘ L) = (id : ByteArray → ByteArray) := by funext x; exact S_L x
 rw [this, List.map_id]
def SmallP (x : S47) : Prop := (x.f0.size ≤ 1048576 ∧ x.f1.size ≤ 1048576 ∧ x.f2.size ≤ 1048576) ∧ (x.f3.length ≤ 1048576 ∧ x.f5.length ≤ 1048576) ∧ (∀ y ∈ x.f3, y.f0.size ≤ 1048576 ∧ y.f1.size ≤ 1048576) ∧ ∀ s ∈ x.f5, s.size ≤ 1048576
theorem w_SumS_all {l : List S185} {n : Int} (h : w_SumS l ≤ n) (hn : n ≤ 1048576) : ∀ y ∈ l.map t_Sum, y.f0.size ≤ 1048576 ∧ y.f1.size ≤ 1048576 := fun y hy => by
 obtain ⟨x, hx, rfl⟩ := List.mem_map.1 hy
 have := w_SumS_mem hx
 unfold w_Sum at this
 show x.f0.size ≤ _ ∧ x.f1.size ≤ _
 omega
theorem small_pack {x : S139} (h : w_Pack x.f0 x.f1 x.f2 x.f3 x.f4 x.f5 ≤ 1048576) : SmallP (t_Pack x) := by
 unfold w_Pack at h
 have n3 := w_SumS_nonneg x.f3
 have n5 := w_StringS_nonneg x.f5
 have l3 := w_SumS_len x.f3
 have l5 := w_StringS_len x.f5
 refine ⟨⟨?_, ?_, ?_⟩, ⟨?_, ?_⟩, ?_, ?_⟩
 ·show x.f0.size ≤ _; omega
 ·show x.f1.size ≤ _; omega
 ·show x.f2.size ≤ _; omega
 ·show (x.f3.map t_Sum).length ≤ _; rw [List.length_map]; omega
 ·show x.f5.length ≤ _; omega
 ·exact w_SumS_all (n := w_SumS x.f3) (Int.le_refl _) (by omega)
 ·intro s hs
  have := w_StringS_mem (l := x.f5) hs
  omega
theorem small_graph {t : List ByteArray} {p : List S139} (h : w_Graph t p ≤ 1048576) : (t.length ≤ 1048576 ∧ ∀ s ∈ t, s.size ≤ 1048576) ∧ (p.map t_Pack).length ≤ 1048576 ∧ ∀ x ∈ p.map t_Pack, SmallP x := by
 unfold w_Graph at h
 have n1 := w_StringS_nonneg t
 have n2 := w_PackS_nonneg p
 have l1 := w_StringS_len t
 have l2 := w_PackS_len p
 refine ⟨⟨by omega, fun s hs => ?_⟩, by rw [List.length_map]; omega, fun x hx => ?_⟩
 ·have := w_StringS_mem (l := t) hs; omega
 ·obtain ⟨y, hy, rfl⟩ := List.mem_map.1 hx
  exact small_pack (by have := w_PackS_mem hy; omega)
theorem small_lists {l : List S47} (h : ∀ x ∈ l, SmallP x) (hl : l.length ≤ 1048576) : l.length ≤ maxLen ∧ ∀ x_ ∈ l, (x_.f3.length ≤ maxLen ∧ x_.f5.length ≤ maxLen) :=
 ⟨by unfold maxLen; omega, fun x hx => by have := (h x hx).2.1; unfold maxLen; omega⟩
theorem sum_ones {α : Type} (l : List α) : (l.map fun _ => 1).sum = l.length := by
 induction l with
 | nil => rfl
 | cons x l ih => rw [List.map_cons, List.sum_cons, ih, List.length_cons]; omega
theorem mhStringS (l : List ByteArray) (c : Int) (hl : l.length ≤ 140737488355328) (hc : 0 ≤ c) (hb : c + l.length ≤ 2305843009213693952) :
  ∃ l' r, l'.length = l.length ∧ Ev (fun k => laws_markStringS.f k l c) (r, l') ∧ Ev (fun k => laws_heldStringS.f k l' c) r ∧ c ≤ r ∧ r ≤ c + l.length := by
 have := mark_held ByteArray.empty (fun k x0 c i => laws_markStringS.l0 k x0 c i) (fun k y c i => laws_heldStringS.l0 k y c i) (fun _ => 1)
  (fun k x0 c => by show laws_markStringS.l0 (k + 1) x0 c _ = _; rw [laws_markStringS.l0, if_neg (by omega)])
  (fun k y c => by show laws_heldStringS.l0 (k + 1) y c _ = _; rw [laws_heldStringS.l0, if_neg (by omega)])
  (fun e c h0 h1 => by
   obtain ⟨m, hm⟩ := markText_ex c (by omega)
   refine ⟨m, c + 1, by omega, by omega, fun x0 i r hi hi1 he hr => ?_, fun y i r hi hi1 he hr => ?_⟩
   ·refine Ev.step (f := fun k => (laws_markText.f k c).bind fun t => laws_markStringS.l0 k (x0.set i t) (c + 1) ((i + 1 : Nat) : Int)) (fun k => ?_) (Ev.bind hm hr)
    show laws_markStringS.l0 (k + 1) x0 c (i : Int) = _
    rw [laws_markStringS.l0, if_pos (by omega)]
    refine Option.bind_congr fun t _ => ?_
    rw [if_pos (by omega), Int.toNat_natCast, w64 (n := c + 1) (by omega) (by omega), wa1 i (by omega)]
   ·refine Ev.step (f := fun k => (laws_markText.f k c).bind fun t => if m.toList = t.toList then laws_heldStringS.l0 k y (c + 1) ((i + 1 : Nat) : Int) else some (-1)) (fun k => ?_) (Ev.bind hm (ev_pos rfl hr))
    show laws_heldStringS.l0 (k + 1) y c (i : Int) = _
    have he' : rdOf ByteArray.empty y (i : Int) = m := he
    rw [laws_heldStringS.l0, if_pos (by omega), if_pos (by omega)]
    refine Option.bind_congr fun t _ => ?_
    rw [he', w64 (n := c + 1) (by omega) (by omega), wa1 i (by omega)])
  l c hl hc (by rw [sum_ones]; exact hb)
 rw [sum_ones] at this
 exact this
end Go.Proofs.YtieohddolkeegaaGreatDoor.U

end
section
namespace Go.Proofs.YtieohddolkeegaaGreatDoor.U
open Go Go.RowKit Go.Proofs.YtieohddolkeegaaGreatDoorW.PrintWords Go.Proofs.YtieohddolkeegaaGreatDoor.G
set_option linter.unusedVariables false
set_option linter.unusedSimpArgs false
def idx (l : B) (c : UInt8) : Int := Lib.indexByte l c
theorem idx_nil (c : UInt8) : idx [] c = -1 := rfl
theorem idx_cons (b : UInt8) (l : B) (c : UInt8) : idx (b :: l) c = if b = c then 0 else if idx l c = -1 then -1 else idx l c + 1 := by
 show Lib.indexByte (b :: l) c = _
 rw [Lib.indexByte]
 by_cases h : b = c
 ·simp [h]
 ·simp [h]; rfl
theorem idx_ge (l : B) (c : UInt8) : -1 ≤ idx l c := Lib.indexByte_ge l c
theorem idx_lt (l : B) (c : UInt8) : idx l c < l.length := by
 induction l with
 | nil => rw [idx_nil]; simp
 | cons b l ih =>
  rw [idx_cons, List.length_cons]
  split
  ·omega
  ·split <;> omega
def idxFrom (l : B) (c : UInt8) (i : Nat) : Int := if idx (l.drop i) c = -1 then -1 else (i : Int) + idx (l.drop i) c
theorem idxFrom_zero (l : B) (c : UInt8) : idxFrom l c 0 = idx l c := by
 unfold idxFrom; rw [List.drop_zero]; split
 ·rename_i h; rw [h]
 ·simp
theorem spec_l01At_ev (s : ByteArray) (c : UInt8) (hs : s.size ≤ 1099511627776) : Ev (fun k => spec_l01At.f k s (c.toNat : Int)) (idx (L s) c) := by
 rw [← idxFrom_zero]
 refine loop_up (fun k i (_ : Unit) => spec_l01At.l0 k s (c.toNat : Int) i) (L s).length (fun _ _ => True) (fun i _ => idxFrom (L s) c i) ?_ ?_ 0 () (by omega) trivial
 ·intro st _
  refine Ev.step (f := fun k => some (-1)) (fun k => by rw [spec_l01At.l0, if_neg (by rw [size_L]; omega)]) ?_
  refine ev_use (Ev.now _) ?_
  unfold idxFrom; rw [List.drop_length, idx_nil, if_pos rfl]
 ·intro i st hi _ ih
  have hz : (i : Int) < (s.size : Int) := by rw [size_L]; omega
  by_cases h : at_ (L s) i = c
  ·refine Ev.step (f := fun k => some (i : Int)) (fun k => ?_) (ev_use (Ev.now _) ?_)
   ·rw [spec_l01At.l0, if_pos hz, if_pos (by omega), bt_nat, h, if_pos rfl]
   ·unfold idxFrom; rw [drop_at _ _ hi, idx_cons, if_pos h]; simp
  ·refine Ev.step (f := fun k => spec_l01At.l0 k s (c.toNat : Int) ((i + 1 : Nat) : Int)) (fun k => ?_) (ev_use (ih () trivial) ?_)
   ·rw [spec_l01At.l0, if_pos hz, if_pos (by omega), bt_nat, if_neg (fun e => h (byte_inj e)), inc i (by rw [← size_L] at hi; omega)]
   ·unfold idxFrom; rw [drop_at _ _ hi, idx_cons, if_neg h]
    have := idx_ge ((L s).drop (i + 1)) c
    split
    ·rfl
    ·rw [if_neg (by omega)]; omega
def keyOf (x : S47) : ByteArray := (x.f0 ++ (⟨#[64]⟩ : ByteArray)) ++ x.f1
def findFrom (key : ByteArray) : List S47 → Nat → Int
 | [], _ => -1
 | x :: l, i => if L (keyOf x) = L key then (i : Int) else findFrom key l (i + 1)
def findL (key : ByteArray) (l : List S47) : Int := findFrom key l 0
theorem key_spec (x : S47) (h : SmallP x) : spec_KeyOf.f x.f0 x.f1 x.f2 x.f3 x.f4 x.f5 = some (keyOf x) := by
 have e1 : (x.f0 ++ (⟨#[64]⟩ : ByteArray)).size = x.f0.size + 1 := by rw [ByteArray.size_append]; rfl
 have := h.1
 unfold spec_KeyOf.f keyOf; rw [if_pos (by omega), if_pos (by rw [e1]; omega)]
theorem key_impl (x : S47) (h : SmallP x) : impl_KeyOf.f x.f0 x.f1 x.f2 x.f3 x.f4 x.f5 = some (keyOf x) := by
 have e1 : (x.f0 ++ (⟨#[64]⟩ : ByteArray)).size = x.f0.size + 1 := by rw [ByteArray.size_append]; rfl
 have := h.1
 unfold impl_KeyOf.f keyOf; rw [if_pos (by omega), if_pos (by rw [e1]; omega)]
theorem spec_Find_ev (t : List ByteArray) (l : List S47) (key : ByteArray) (hl : l.length ≤ 1048576) (hs : ∀ x ∈ l, SmallP x) : Ev (fun k => spec_Find.f k t l key) (findL key l) := by
 unfold spec_Find.f findL
 have go : ∀ d i, i + d = l.length → Ev (fun k => spec_Find.l0 k key (i : Int) t l) (findFrom key (l.drop i) i) := by
  intro d
  induction d with
  | zero =>
   intro i hi
   rw [List.drop_of_length_le (by omega), findFrom]
   exact Ev.step (f := fun _ => some (-1)) (fun k => by rw [spec_Find.l0, if_neg (by omega)]) (Ev.now _)
  | succ d ih =>
   intro i hi
   have hm := hs _ (getD_mem l i z47 (by omega))
   have e2 : rd_T47 l (i : Int) = l.getD i z47 := rfl
   rw [drop_getD l i z47 (by omega), findFrom]
   refine Ev.step (f := fun k => if L (keyOf (l.getD i z47)) = L key then some (i : Int) else spec_Find.l0 k key ((i + 1 : Nat) : Int) t l) (fun k => ?_) ?_
   ·rw [spec_Find.l0, if_pos (by omega), if_pos (by omega), e2, key_spec _ hm, Option.bind_some, toList_L, toList_L, wa1 i (by omega)]
   ·by_cases h : L (keyOf (l.getD i z47)) = L key
    ·rw [if_pos h]; exact ev_pos h (Ev.now _)
    ·rw [if_neg h]; exact ev_neg h (ih (i + 1) (by omega))
 have := go l.length 0 (by omega)
 exact this
theorem impl_Find_ev (t : List ByteArray) (l : List S47) (key : ByteArray) (hl : l.length ≤ 1048576) (hs : ∀ x ∈ l, SmallP x) : Ev (fun k => impl_Find.f k t l key) (findL key l) := by
 unfold impl_Find.f impl_Pack__impl_Find_1.f findL
 have go : ∀ d i, i + d = l.length → Ev (fun k => impl_Pack__impl_Find_1.l0 key k l (l.length : Int) (i : Int)) (findFrom key (l.drop i) i) := by
  intro d
  induction d with
  | zero =>
   intro i hi
   rw [List.drop_of_length_le (by omega), findFrom]
   exact Ev.step (f := fun _ => some (-1)) (fun k => by rw [impl_Pack__impl_Find_1.l0, if_neg (by omega)]) (Ev.now _)
  | succ d ih =>
   intro i hi
   have hm := hs _ (getD_mem l i z47 (by omega))
   have e2 : rd_T47 l (i : Int) = l.getD i z47 := rfl
   rw [drop_getD l i z47 (by omega), findFrom]
   refine Ev.step (f := fun k => if (L (keyOf (l.getD i z47)) == L key) = true then some (i : Int) else impl_Pack__impl_Find_1.l0 key k l (l.length : Int) ((i + 1 : Nat) : Int)) (fun k => ?_) ?_
   ·rw [impl_Pack__impl_Find_1.l0, if_pos (by omega), if_pos (by omega), if_pos (by omega), e2, impl_Find_1.f, key_impl _ hm, Option.bind_some, toList_L, toList_L, wa1 i (by omega)]; rfl
   ·by_cases h : L (keyOf (l.getD i z47)) = L key
    ·rw [if_pos h]; exact ev_pos (beq_iff_eq.2 h) (Ev.now _)
    ·rw [if_neg h]; exact ev_neg (by rw [beq_iff_eq]; exact h) (ih (i + 1) (by omega))
 have := go l.length 0 (by omega)
 exact Ev.bind this (Ev.now _)
end Go.Proofs.YtieohddolkeegaaGreatDoor.U

end
section
namespace Go.Proofs.YtieohddolkeegaaGreatDoor.G
open Go Go.RowKit Go.Proofs.YtieohddolkeegaaGreatDoorW.PrintWords Go.Proofs.YtieohddolkeegaaGreatDoorW.PrintLast Go.Proofs.YtieohddolkeegaaGreatDoorW.PrintMore Go.Proofs.YtieohddolkeegaaGreatDoor.U
set_option linter.unusedVariables false
set_option linter.unusedSimpArgs false
structure MB (w0 wS : World) (P : Nat → Prop) (g n cap : Nat) (xs : List S47) (i : Int) (oki : Nat → Prop) (v3 v5 : Value) (a b c : ByteArray) (f : Bool) (s3 : List S130) (s5 : List ByteArray) (W : World) : Prop where
  h0 : 0 ≤ i
  h1 : i < n
  H : Kd.H k47 47 W w0.heap.size (fun k => P k ∨ wS.heap.size ≤ k) (.slice (some ⟨g, 0, none⟩) n cap) xs i oki [.string a, .string b, .string c, v3, .bool f, v5]
  R3 : k130.R 130 W w0.heap.size oki v3 s3
  R5 : Kd.string.R 9 W w0.heap.size oki v5 s5
  K : Kept wS W (fun k => P k)
  B : Below w0.heap.size w0 W
  ne : ∀ k, oki k → (P k ∨ wS.heap.size ≤ k) ∧ k ≠ g
  og : (P g ∨ wS.heap.size ≤ g) ∧ w0.heap.size ≤ g
section
variable {w0 wS W W1 : World} {P : Nat → Prop} {g n cap : Nat} {xs : List S47} {i : Int} {oki : Nat → Prop} {v3 v5 : Value} {a b c : ByteArray} {f : Bool} {s3 : List S130} {s5 : List ByteArray}
theorem MB.below (h : MB w0 wS P g n cap xs i oki v3 v5 a b c f s3 s5 W) (hb : Below W.heap.size W W1) : MB w0 wS P g n cap xs i oki v3 v5 a b c f s3 s5 W1 :=
  ⟨h.h0, h.h1, Kd.H_below h.H hb, Kd.R_below h.R3 hb, Kd.R_below h.R5 hb, h.K.below hb, below_step h.B hb, h.ne, h.og⟩
theorem MB.cells (h : MB w0 wS P g n cap xs i oki v3 v5 a b c f s3 s5 W) : (W.cell? ⟨g, i.toNat * 6, none⟩ = some (.string a) ∧ W.cell? ⟨g, i.toNat * 6 + 1, none⟩ = some (.string b) ∧ W.cell? ⟨g, i.toNat * 6 + 2, none⟩ = some (.string c) ∧ W.cell? ⟨g, i.toNat * 6 + 3, none⟩ = some v3 ∧ W.cell? ⟨g, i.toNat * 6 + 4, none⟩ = some (.bool f) ∧ W.cell? ⟨g, i.toNat * 6 + 5, none⟩ = some v5) ∧
    (W.frozen? ⟨g, i.toNat * 6, none⟩ = false ∧ W.frozen? ⟨g, i.toNat * 6 + 1, none⟩ = false ∧ W.frozen? ⟨g, i.toNat * 6 + 2, none⟩ = false ∧ W.frozen? ⟨g, i.toNat * 6 + 4, none⟩ = false) := by
  obtain ⟨h1, h2⟩ := Kd.H_at h.H h.h0 h.h1
  exact ⟨⟨h1 0 _ rfl, h1 1 _ rfl, h1 2 _ rfl, h1 3 _ rfl, h1 4 _ rfl, h1 5 _ rfl⟩, h2 0, h2 1, h2 2, h2 4⟩
theorem MB.set (h : MB w0 wS P g n cap xs i oki v3 v5 a b c f s3 s5 W) {a' b' c' : ByteArray} {f' : Bool} (j : Nat) (u : Value) (hj : j + 1 ≤ 6) (hu : u.oneCell' = true)
    (he : ([.string a, .string b, .string c, v3, .bool f, v5] : List Value).take j ++ [u] ++ ([.string a, .string b, .string c, v3, .bool f, v5] : List Value).drop (j + 1) = [.string a', .string b', .string c', v3, .bool f', v5]) :
    MB w0 wS P g n cap xs i oki v3 v5 a' b' c' f' s3 s5 (W.setCell ⟨g, i.toNat * 6 + j, none⟩ u) := by
  obtain ⟨h2, h3⟩ := Kd.H_seg h.H h.h0 h.h1 (seg := [u]) (j := j) hj (by intro q hq; rw [List.mem_singleton.1 hq]; exact hu)
  have h2' : Kd.H k47 47 (W.setCell ⟨g, i.toNat * 6 + j, none⟩ u) w0.heap.size (fun k => P k ∨ wS.heap.size ≤ k) (.slice (some ⟨g, 0, none⟩) n cap) xs i oki [.string a', .string b', .string c', v3, .bool f', v5] := by
    rw [← he]; exact h2
  exact ⟨h.h0, h.h1, h2', Kd.R_far h.R3 (fun k hk => (h.ne k hk).2) u, Kd.R_far h.R5 (fun k hk => (h.ne k hk).2) u, h.K.setCell h.og.1 u, below_set h.B h.og.2, h.ne, h.og⟩
theorem MB.mark3 (h : MB w0 wS P g n cap xs i oki v3 v5 a b c f s3 s5 W) {s3' : List S130} (hR : k130.R 130 W1 w0.heap.size (fun k => some k = v3.ownBlock ∨ W.heap.size ≤ k) v3 s3') (hB : Below w0.heap.size w0 W1) (hK : Kept W W1 (fun k => some k = v3.ownBlock)) :
    MB w0 wS P g n cap xs i oki v3 v5 a b c f s3' s5 W1 := by
  have h3 : ∀ k, some k = v3.ownBlock → oki k := fun k hk => h.R3.1 k hk.symm
  refine ⟨h.h0, h.h1, Kd.H_kept h.H hK (fun k _ h1 h2 => h1 (h3 k h2)), Kd.R_reok rfl hR (fun k hk => h3 k hk.symm), ?_, h.K.then_ hK (fun k hk => (h.ne k (h3 k hk)).1), hB, h.ne, h.og⟩
  refine Kd.R_reok (ok1 := fun k => some k = v5.ownBlock) rfl (Kd.R_kept (Kd.R_tight rfl h.R5) hK fun k hk h2 => ?_) (fun k hk => h.R5.1 k hk)
  obtain ⟨c1, e1⟩ := Kd.R_typed h.R3 k h2.symm
  obtain ⟨c2, e2⟩ := Kd.R_typed h.R5 k hk.symm
  rw [e1] at e2
  injection e2 with e2
  injection e2 with _ e2
  exact absurd e2 (by decide)
theorem MB.mark5 (h : MB w0 wS P g n cap xs i oki v3 v5 a b c f s3 s5 W) {s5' : List ByteArray} (hR : Kd.string.R 9 W1 w0.heap.size (fun k => some k = v5.ownBlock ∨ W.heap.size ≤ k) v5 s5') (hB : Below w0.heap.size w0 W1) (hK : Kept W W1 (fun k => some k = v5.ownBlock)) :
    MB w0 wS P g n cap xs i oki v3 v5 a b c f s3 s5' W1 := by
  have h5 : ∀ k, some k = v5.ownBlock → oki k := fun k hk => h.R5.1 k hk.symm
  refine ⟨h.h0, h.h1, Kd.H_kept h.H hK (fun k _ h1 h2 => h1 (h5 k h2)), ?_, Kd.R_reok rfl hR (fun k hk => h5 k hk.symm), h.K.then_ hK (fun k hk => (h.ne k (h5 k hk)).1), hB, h.ne, h.og⟩
  refine Kd.R_reok (ok1 := fun k => some k = v3.ownBlock) rfl (Kd.R_kept (Kd.R_tight rfl h.R3) hK fun k hk h2 => ?_) (fun k hk => h.R3.1 k hk)
  obtain ⟨c1, e1⟩ := Kd.R_typed h.R5 k h2.symm
  obtain ⟨c2, e2⟩ := Kd.R_typed h.R3 k hk.symm
  rw [e1] at e2
  injection e2 with e2
  injection e2 with _ e2
  exact absurd e2 (by decide)
theorem MB.back (h : MB w0 wS P g n cap xs i oki v3 v5 a b c f s3 s5 W) : Kd.S k47 47 W w0.heap.size (fun k => P k ∨ wS.heap.size ≤ k) (.slice (some ⟨g, 0, none⟩) n cap) (xs.set i.toNat ⟨a, b, c, s3, f, s5⟩) :=
  Kd.H_back h.H (k47_mkM W w0.heap.size oki ⟨a, b, c, s3, f, s5⟩ h.R3 h.R5) (fun _ hk => hk)
theorem MB.lend (hS : Kd.S k47 47 W w0.heap.size (fun k => P k ∨ wS.heap.size ≤ k) (.slice (some ⟨g, 0, none⟩) n cap) xs) (h0 : 0 ≤ i) (h1 : i < n) (hK : Kept wS W (fun k => P k)) (hB : Below w0.heap.size w0 W) :
    ∃ oki v3 v5, MB w0 wS P g n cap xs i oki v3 v5 (rd_T47 xs i).f0 (rd_T47 xs i).f1 (rd_T47 xs i).f2 (rd_T47 xs i).f4 (rd_T47 xs i).f3 (rd_T47 xs i).f5 W := by
  obtain ⟨oki, c, h2, h3, h4, h5, h6⟩ := Kd.S_lend hS z47 i h0 h1
  obtain ⟨v3, v5, rfl, g3, g5⟩ := k47_openM h3
  exact ⟨oki, v3, v5, h0, h1, h6, g3, g5, hK, hB, h5, (Kd.S_R hS).1 g rfl, Kd.S_base hS g rfl⟩
end
end Go.Proofs.YtieohddolkeegaaGreatDoor.G

end
section
namespace Go.Proofs.YtieohddolkeegaaGreatDoor.G
open Go.RowKit Go.Proofs.YtieohddolkeegaaGreatDoorW.PrintWords Go.Proofs.YtieohddolkeegaaGreatDoorW.PrintLast Go.Proofs.YtieohddolkeegaaGreatDoorW.PrintMore Go.Proofs.YtieohddolkeegaaGreatDoor.U
attribute [local go_sem] max2_int min2_int max_two min_two max_three min_three max_four min_four
set_option linter.unusedVariables false
set_option linter.unusedSimpArgs false
def cntP (l : List S47) : Nat := (l.map fun p => 4 + 2 * p.f3.length + p.f5.length).sum
theorem cntP_take {l : List S47} {i : Nat} (h : i < l.length) : cntP (l.take (i + 1)) = cntP (l.take i) + (4 + 2 * l[i].f3.length + l[i].f5.length) := by
  unfold cntP
  rw [List.take_succ_eq_append_getElem h, List.map_append, List.sum_append]
  simp
theorem cntP_len (l : List S47) : l.length ≤ cntP l := by
  induction l with
  | nil => exact Nat.le_refl _
  | cons p l ih =>
    unfold cntP at ih ⊢
    rw [List.map_cons, List.sum_cons, List.length_cons]
    omega
theorem cntP_le {l : List S47} (i : Nat) : cntP (l.take i) ≤ cntP l := by
  conv => rhs; rw [← List.take_append_drop i l]
  unfold cntP
  rw [List.map_append, List.sum_append]
  omega
set_option maxHeartbeats 8000000 in
set_option maxRecDepth 100000 in
theorem laws_markPackS.callsM (P : Nat → Prop) (u : Value) (l0 : List S47) (a1 : Int) (w0 w : World) (hB : Below w0.heap.size w0 w) (ho0 : Kd.S k47 47 w w0.heap.size P u l0) (ha : 0 ≤ a1) (hl : a1 + cntP l0 ≤ 35184372088832) :
    Calls Tryz.prog 82 #[u, .int .i64 a1] w fun e w' => ∃ m : List S47, e = .returned (.int .i64 (a1 + cntP l0)) ∧ m.length = l0.length ∧ Kd.S k47 47 w' w0.heap.size (fun k => P k ∨ w.heap.size ≤ k) u m ∧ Below w0.heap.size w0 w' ∧ Kept w w' (fun k => P k) := by
  have hu47 := Tryz.underlying47
  obtain ⟨A0, c0, rfl⟩ := Kd.S_slice ho0
  have HO0 := Aside0.mk (show Kd.S k47 47 w w0.heap.size (fun k => P k ∨ w.heap.size ≤ k) (.slice A0 l0.length c0) l0 from Kd.S_mono ho0 (fun k hk => .inl hk))
  have HK := Aside0.mk (Kept.refl w (fun k => P k))
  have HB := Aside0.mk hB
  have HL := Aside0.mk hl
  have HA := Aside0.mk ha
  clear hB ho0 hl ha
  go_enter Tryz.func82, Tryz.ntmps82
  go_wp2
  go_loopg [1, 5] (l0.length + 1) (fun kq v1 v5 w' => ∃ (xs : List S47) (x1 x5 : Int), v1 = .int .i64 x1 ∧ v5 = .int .i64 x5 ∧ Aside0 (∃ i : Nat, x5 = (i : Int) ∧ i + kq = l0.length + 1 ∧ i ≤ l0.length ∧ xs.length = l0.length ∧ xs.drop i = l0.drop i ∧ x1 = a1 + cntP (l0.take i)) ∧ Aside0 (Kd.S k47 47 w' w0.heap.size (fun k => P k ∨ w.heap.size ≤ k) (.slice A0 l0.length c0) xs) ∧ Aside0 (Kept w w' (fun k => P k)) ∧ Aside0 (Below w0.heap.size w0 w'))
  case atStart => exact ⟨l0, a1, 0, rfl, rfl, ⟨0, rfl, by omega, by omega, rfl, rfl, by simp [cntP]⟩, HO0, HK, HB⟩
  case round =>
    clear HO0 HK HB
    obtain ⟨xs, x1, x5, rfl, rfl, HI, HO, HK, HB⟩ := hrel
    obtain ⟨i, hi1, hi2, hi3, hi4, hi5, hi6⟩ := HI.out
    cases gk with
    | zero => omega
    | succ k1 =>
      by_cases c3 : x5 < (l0.length : Int)
      · have c3b0 : decide (x5 < (l0.length : Int)) = true := decide_eq_true c3
        have hlt : i < l0.length := by omega
        have hx0 : 0 ≤ x5 := by omega
        have hel : rd_T47 xs x5 = l0[i] := by
          have h1 : xs[i]? = l0[i]? := by
            have := congrArg (fun q : List S47 => q[0]?) hi5
            simpa using this
          unfold rd_T47
          rw [hi1, Int.toNat_natCast, List.getD_eq_getElem?_getD, h1, List.getElem?_eq_getElem hlt]
          rfl
        have hcnt := cntP_take hlt
        have hle := cntP_le (l := l0) (i + 1)
        have hln := cntP_len l0
        have hL := HL.out
        have hA := HA.out
        have e5 : wrap64 (x5 + 1) = x5 + 1 := w64 (by omega) (by omega)
        have hK0 : 0 ≤ x1 := by omega
        generalize l0[i] = p at hcnt hel
        have e1 : wrap64 (x1 + 1) = x1 + 1 := w64 (by omega) (by omega)
        have e2 : wrap64 (x1 + 1 + 1) = x1 + 1 + 1 := w64 (by clear e1; omega) (by clear e1; omega)
        have e3 : wrap64 (x1 + 1 + 1 + 1) = x1 + 1 + 1 + 1 := w64 (by clear e1 e2; omega) (by clear e1 e2; omega)
        have e4 : wrap64 (x1 + 1 + 1 + 1 + 2 * p.f3.length + 1) = x1 + 1 + 1 + 1 + 2 * p.f3.length + 1 := w64 (by clear e1 e2 e3; omega) (by clear e1 e2 e3; omega)
        obtain ⟨m1, n1, q1⟩ := markText_ex x1 (by clear e1 e2 e3 e4 e5; omega)
        obtain ⟨m2, n2, q2⟩ := markText_ex (x1 + 1) (by clear e1 e2 e3 e4 e5; omega)
        obtain ⟨m3, n3, q3⟩ := markText_ex (x1 + 1 + 1) (by clear e1 e2 e3 e4 e5; omega)
        obtain ⟨s3', hs3, ns, qs⟩ := markSumS_cnt p.f3 (x1 + 1 + 1 + 1) (by clear e1 e2 e3 e4 e5; omega) (by clear e1 e2 e3 e4 e5; omega) (by clear e1 e2 e3 e4 e5; omega)
        obtain ⟨s5', hs5, nt, qt⟩ := markStringS_cnt p.f5 (x1 + 1 + 1 + 1 + 2 * p.f3.length + 1) (by clear e1 e2 e3 e4 e5; omega) (by clear e1 e2 e3 e4 e5; omega) (by clear e1 e2 e3 e4 e5; omega)
        obtain ⟨r4, hr4⟩ : ∃ r : Int, r = x1 + 1 + 1 + 1 + 2 * p.f3.length := ⟨_, rfl⟩
        obtain ⟨r6, hr6⟩ : ∃ r : Int, r = x1 + 1 + 1 + 1 + 2 * p.f3.length + 1 + p.f5.length := ⟨_, rfl⟩
        rw [← hr6] at qt
        rw [← hr4] at qs qt e4
        rw [← e1] at q2
        rw [← e2, ← e1] at q3
        rw [← e3, ← e2, ← e1] at qs
        rw [← e4] at qt
        have p6 := eq_true hx0
        have q6 : (x5 < ((l0.length : Int) : Int)) = True := eq_true c3
        have Q1 := Aside0.mk q1
        have Q2 := Aside0.mk q2
        have Q3 := Aside0.mk q3
        have QS := Aside0.mk qs
        have QT := Aside0.mk qt
        have HF := Aside0.mk (And.intro hr4 (And.intro hr6 (And.intro e5 (And.intro hi1 (And.intro hi2 (And.intro hi3 (And.intro hi4 (And.intro hi5 (And.intro hi6 (And.intro hlt (And.intro hcnt (And.intro hle (And.intro hln (And.intro hel (And.intro hs3 (And.intro hs5 (And.intro c3 (And.intro hx0 (And.intro hL (And.intro hA (hK0)))))))))))))))))))))
        clear e1 e2 e3 e4 e5 q1 q2 q3 qs qt hr4 hr6 hi1 hi2 hi3 hi4 hi5 hi6 hlt hcnt hle hln hel hs3 hs5 c3 hx0 hL hA hK0
        go_wp2_with (first | ((with_reducible refine gate_callee (f := 83) rfl ?_); refine goesL_ (some 15) rfl rfl Tryz.func83 (by kernel_rfl) rfl #[.int .i64 x1] rfl (by (try simp only [List.map_toArray, List.map_cons, List.map_nil]); first | done | rfl) ?_; (with_reducible refine (laws_markText.calls _ x1 m1 _ (Q1.out _ (Nat.le_refl _))).mono ?_); rintro e wa ⟨rfl, hb⟩; refine ⟨_, rfl, ?_⟩; have HO1 := Kd.S_below HO.out hb; have HK1 := HK.out.below hb; have HB1 := below_step HB.out hb; obtain ⟨hr4, hr6, e5, hi1, hi2, hi3, hi4, hi5, hi6, hlt, hcnt, hle, hln, hel, hs3, hs5, c3, hx0, hL, hA, hK0⟩ := HF.out; obtain ⟨g, cap, ef, _, _, _⟩ := Kd.S_form HO1 (by omega); injection ef with ef en ec; subst ef; subst ec; clear en; obtain ⟨oki, v3, v5, hmb⟩ := MB.lend (i := x5) HO1 hx0 (by omega) HK1 HB1; rw [hel] at hmb; have HM := Aside0.mk hmb; clear hmb HO1 HK1 HB1 HO HK HB hb hr4 hr6 e5 hi1 hi2 hi3 hi4 hi5 hi6 hlt hcnt hle hln hel hs3 hs5 c3 hx0 hL hA hK0; obtain ⟨⟨hx0_, hx1_, hx2_, hx3_, hx4_, hx5_⟩, hf0_, hf1_, hf2_, hf4_⟩ := MB.cells HM.out) | ((with_reducible refine gate_store (t := 9) (p := 17) rfl ?_); refine store_event (t := 9) (p := 17) (v := ?vo_wb) (w1 := (wa.setCell ⟨g, x5.toNat * 6, none⟩ (.string m1))) ?hg ?ho ?hn ?hr ?_; (case ho => rfl); (case hg => rfl); (case hn => rfl); (case hr => first | (go_simp; done) | (go_simp; rfl)); intro wb hw; replace HM := Aside0.mk (show MB _ _ _ _ _ _ _ _ _ _ _ _ _ _ _ _ _ wb from (by rw [hw]; exact MB.set HM.out 0 (.string m1) (by decide) rfl rfl)); clear hw; clear hx0_ hx1_ hx2_ hx3_ hx4_ hx5_ hf0_ hf1_ hf2_ hf4_; obtain ⟨⟨hx0_, hx1_, hx2_, hx3_, hx4_, hx5_⟩, hf0_, hf1_, hf2_, hf4_⟩ := MB.cells HM.out) | ((with_reducible refine gate_callee (f := 83) rfl ?_); refine goesL_ (some 23) rfl rfl Tryz.func83 (by kernel_rfl) rfl #[.int .i64 (wrap64 (x1 + 1))] rfl (by (try simp only [List.map_toArray, List.map_cons, List.map_nil]); first | done | rfl) ?_; (with_reducible refine (laws_markText.calls _ (wrap64 (x1 + 1)) m2 _ (Q2.out _ (Nat.le_refl _))).mono ?_); rintro e wc ⟨rfl, hb⟩; refine ⟨_, rfl, ?_⟩; replace HM := Aside0.mk (MB.below HM.out hb); clear hb; obtain ⟨⟨hx0_, hx1_, hx2_, hx3_, hx4_, hx5_⟩, hf0_, hf1_, hf2_, hf4_⟩ := MB.cells HM.out) | ((with_reducible refine gate_store (t := 9) (p := 25) rfl ?_); refine store_event (t := 9) (p := 25) (v := ?vo_wd) (w1 := (wc.setCell ⟨g, x5.toNat * 6 + 1, none⟩ (.string m2))) ?hg ?ho ?hn ?hr ?_; (case ho => rfl); (case hg => rfl); (case hn => rfl); (case hr => first | (go_simp; done) | (go_simp; rfl)); intro wd hw; replace HM := Aside0.mk (show MB _ _ _ _ _ _ _ _ _ _ _ _ _ _ _ _ _ wd from (by rw [hw]; exact MB.set HM.out 1 (.string m2) (by decide) rfl rfl)); clear hw; clear hx0_ hx1_ hx2_ hx3_ hx4_ hx5_ hf0_ hf1_ hf2_ hf4_; obtain ⟨⟨hx0_, hx1_, hx2_, hx3_, hx4_, hx5_⟩, hf0_, hf1_, hf2_, hf4_⟩ := MB.cells HM.out) | ((with_reducible refine gate_callee (f := 83) rfl ?_); refine goesL_ (some 31) rfl rfl Tryz.func83 (by kernel_rfl) rfl #[.int .i64 (wrap64 (wrap64 (x1 + 1) + 1))] rfl (by (try simp only [List.map_toArray, List.map_cons, List.map_nil]); first | done | rfl) ?_; (with_reducible refine (laws_markText.calls _ (wrap64 (wrap64 (x1 + 1) + 1)) m3 _ (Q3.out _ (Nat.le_refl _))).mono ?_); rintro e we ⟨rfl, hb⟩; refine ⟨_, rfl, ?_⟩; replace HM := Aside0.mk (MB.below HM.out hb); clear hb; obtain ⟨⟨hx0_, hx1_, hx2_, hx3_, hx4_, hx5_⟩, hf0_, hf1_, hf2_, hf4_⟩ := MB.cells HM.out) | ((with_reducible refine gate_store (t := 9) (p := 33) rfl ?_); refine store_event (t := 9) (p := 33) (v := ?vo_wf) (w1 := (we.setCell ⟨g, x5.toNat * 6 + 2, none⟩ (.string m3))) ?hg ?ho ?hn ?hr ?_; (case ho => rfl); (case hg => rfl); (case hn => rfl); (case hr => first | (go_simp; done) | (go_simp; rfl)); intro wf hw; replace HM := Aside0.mk (show MB _ _ _ _ _ _ _ _ _ _ _ _ _ _ _ _ _ wf from (by rw [hw]; exact MB.set HM.out 2 (.string m3) (by decide) rfl rfl)); clear hw; clear hx0_ hx1_ hx2_ hx3_ hx4_ hx5_ hf0_ hf1_ hf2_ hf4_; obtain ⟨⟨hx0_, hx1_, hx2_, hx3_, hx4_, hx5_⟩, hf0_, hf1_, hf2_, hf4_⟩ := MB.cells HM.out) | ((with_reducible refine gate_callee (f := 126) rfl ?_); refine goesL_ (some 42) rfl rfl Tryz.func126 (by kernel_rfl) rfl #[v3, .int .i64 (wrap64 (wrap64 (wrap64 (x1 + 1) + 1) + 1))] rfl (by (try simp only [List.map_toArray, List.map_cons, List.map_nil]); first | done | rfl) ?_; (with_reducible refine (laws_markSumS.calls _ (fun k => some k = (v3).ownBlock) v3 _ (wrap64 (wrap64 (wrap64 (x1 + 1) + 1) + 1)) (r4) s3' w0 _ HM.out.B ?side1 (QS.out _ (Nat.le_refl _))).mono ?_); (case side1 => exact Kd.R_tight rfl HM.out.R3); rintro e wg ⟨rfl, hR, hB2, hK2⟩; refine ⟨_, rfl, ?_⟩; replace HM := Aside0.mk (MB.mark3 HM.out hR hB2 hK2); clear hR hB2 hK2; clear hx0_ hx1_ hx2_ hx3_ hx4_ hx5_ hf0_ hf1_ hf2_ hf4_; obtain ⟨⟨hx0_, hx1_, hx2_, hx3_, hx4_, hx5_⟩, hf0_, hf1_, hf2_, hf4_⟩ := MB.cells HM.out) | ((with_reducible refine gate_store (t := 4) (p := 49) rfl ?_); refine store_event (t := 4) (p := 49) (v := ?vo_wh) (w1 := (wg.setCell ⟨g, x5.toNat * 6 + 4, none⟩ (.bool (Int.tmod (r4) 3 == 0)))) ?hg ?ho ?hn ?hr ?_; (case ho => rfl); (case hg => rfl); (case hn => rfl); (case hr => first | (go_simp; done) | (go_simp; rfl)); intro wh hw; replace HM := Aside0.mk (show MB _ _ _ _ _ _ _ _ _ _ _ _ _ _ _ _ _ wh from (by rw [hw]; exact MB.set HM.out 4 (.bool (Int.tmod (r4) 3 == 0)) (by decide) rfl rfl)); clear hw; clear hx0_ hx1_ hx2_ hx3_ hx4_ hx5_ hf0_ hf1_ hf2_ hf4_; obtain ⟨⟨hx0_, hx1_, hx2_, hx3_, hx4_, hx5_⟩, hf0_, hf1_, hf2_, hf4_⟩ := MB.cells HM.out) | ((with_reducible refine gate_callee (f := 38) rfl ?_); refine goesL_ (some 58) rfl rfl Tryz.func38 (by kernel_rfl) rfl #[v5, .int .i64 (wrap64 (r4 + 1))] rfl (by (try simp only [List.map_toArray, List.map_cons, List.map_nil]); first | done | rfl) ?_; (with_reducible refine (laws_markStringS.calls _ (fun k => some k = (v5).ownBlock) v5 _ (wrap64 (r4 + 1)) r6 s5' w0 _ HM.out.B ?side1 (QT.out _ (Nat.le_refl _))).mono ?_); (case side1 => exact Kd.R_tight rfl HM.out.R5); rintro e wi ⟨rfl, hR, hB2, hK2⟩; refine ⟨_, rfl, ?_⟩; replace HM := Aside0.mk (MB.mark5 HM.out hR hB2 hK2); clear hR hB2 hK2; clear hx0_ hx1_ hx2_ hx3_ hx4_ hx5_ hf0_ hf1_ hf2_ hf4_; obtain ⟨⟨hx0_, hx1_, hx2_, hx3_, hx4_, hx5_⟩, hf0_, hf1_, hf2_, hf4_⟩ := MB.cells HM.out))
        go_roundg k1
        case measure => omega
        case rel =>
          obtain ⟨hr4, hr6, e5, hi1, hi2, hi3, hi4, hi5, hi6, hlt, hcnt, hle, hln, hel, hs3, hs5, c3, hx0, hL, hA, hK0⟩ := HF.out
          refine ⟨_, r6, wrap64 (x5 + 1), rfl, rfl, ⟨i + 1, ?_, ?_, ?_, ?_, ?_, ?_⟩, ⟨MB.back HM.out⟩, ⟨HM.out.K⟩, ⟨HM.out.B⟩⟩
          · rw [e5]; clear e5; omega
          · clear e5; omega
          · clear e5; omega
          · clear e5; rw [List.length_set]; exact hi4
          · clear e5
            rw [List.drop_set_of_lt (by omega)]
            have := congrArg (List.drop 1) hi5
            rw [List.drop_drop, List.drop_drop] at this
            exact this
          · clear e5; rw [hcnt]; omega
      · have c3b0 : decide (x5 < (l0.length : Int)) = false := decide_eq_false c3
        have hie : i = l0.length := by omega
        subst hie
        rw [List.take_length] at hi6
        subst hi6
        go_wp2
        go_ret
        exact ⟨rfl, xs, hi4, HO.out, HB.out, HK.out⟩
end Go.Proofs.YtieohddolkeegaaGreatDoor.G

end
