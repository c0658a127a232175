/- A part of the proof that the law FnTexts answers true at every input that its row speaks of. Conditions: the row's own. -/
import Derived.Test.YtbfbomcfmgdpkaaGreatDoorOpZ
import Derived.Test.YtbfbomcfmgdpkaaGreatDoorKFnTexts0
import Derived.Test.YtbfbomcfmgdpkaaGreatDoorMFnTexts2
import Derived.Test.YtbfbomcfmgdpkaaGreatDoorMFnTexts4
import Derived.Test.YtbfbomcfmgdpkaaGreatDoorMFnTexts5
import Derived.Test.YtbfbomcfmgdpkaaGreatDoorMFnTexts3
import Derived.Test.YtbfbomcfmgdpkaaGreatDoorKFnTexts1
section
namespace Go.Proofs.YtbfbomcfmgdpkaaGreatDoor.G
open Go.RowKit Go.Proofs.YtbfbomcfmgdpkaaGreatDoorW.PrintWords Go.Proofs.YtbfbomcfmgdpkaaGreatDoorW.PrintLast Go.Proofs.YtbfbomcfmgdpkaaGreatDoorW.PrintMore
attribute [local go_sem] max2_int min2_int max_two min_two max_three min_three max_four min_four
attribute [local go_sem high] Go.Proofs.YtbfbomcfmgdpkaaGreatDoor.G.str_gtr Go.Proofs.YtbfbomcfmgdpkaaGreatDoor.G.str_leq Go.Proofs.YtbfbomcfmgdpkaaGreatDoor.G.str_geq
set_option linter.unusedVariables false
set_option linter.unusedSimpArgs false
set_option maxHeartbeats 8000000 in
set_option maxRecDepth 100000 in
theorem spec_DrawDecText.calls (k : Nat) (A0 : Option Addr) (c0 : Nat) (l0 : List Int) (r : Int) (w : World) (hr0 : Kd.C (Kd.int .u8) w A0 l0.length l0) (hc0 : l0.length ≤ c0) (h : spec_DrawDecText.f k l0 = some r) :
  Calls Tryz.prog 32 #[.slice A0 l0.length c0] w fun e w' => e = .returned (.int .i64 r) ∧ Below w.heap.size w w' := by
 have HR0 := Aside0.mk hr0
 have HC0 := Aside0.mk hc0
 clear hr0 hc0
 have HB := Aside0.mk (Below.refl w.heap.size w)
 have H : ((spec_l01New.f k l0).bind fun bt378 => ((spec_l01Below.f bt378.1 bt378.2.1 bt378.2.2 100000).bind fun bt382 => ((spec_l01PickInt.f bt378.1 bt382.2.1 bt382.2.2 (([0, (-1), 10, 9223372036854775807, (-9223372036854775808), bt382.1] : List Int))).bind fun bt388 => (some bt388.1)))) = some r := h
 clear h
 replace H := Option.bind_eq_some_iff.mp H
 obtain ⟨⟨t378, t379, t380⟩, A20, H⟩ := H
 try dsimp only at H
 have A2 := Aside0.mk A20
 clear A20
 replace H := Option.bind_eq_some_iff.mp H
 obtain ⟨⟨t382, t383, t384⟩, A30, H⟩ := H
 try dsimp only at H
 have A3 := Aside0.mk A30
 clear A30
 obtain ⟨y385, hy385⟩ : ∃ y_ : List Int, y_ = (([0, (-1), 10, 9223372036854775807, (-9223372036854775808), t382] : List Int)) := ⟨_, rfl⟩
 first | replace H := hb1 H (show (spec_l01PickInt.f t378 t383 t384 y385) = _ from (by rw [hy385])) | replace H := hb1 (hb2 H) (show (spec_l01PickInt.f t378 t383 t384 y385) = _ from (by rw [hy385]))
 have Ny385 := Aside0.mk hy385
 clear hy385
 replace H := Option.bind_eq_some_iff.mp H
 obtain ⟨⟨t388, t389, t390⟩, A40, H⟩ := H
 replace H : (some t388) = some r := H
 have A4 := Aside0.mk A40
 clear A40
 obtain rfl := Option.some.inj H
 go_enter Tryz.func32, Tryz.ntmps32
 go_wp2_with (first | ((with_reducible refine gate_callee (f := 54) rfl ?_); refine goesL_ (some 5) rfl rfl Tryz.func54 zb13 rfl #[.slice A0 l0.length c0] rfl zb2 ?_; (with_reducible refine (spec_l01New.calls k _ _ l0 t378 t379 t380 w _ ?side1 ?side2 ?side3 A2.out).mono ?_); (case side1 => exact zb0); (case side2 => exact HR0.out); (case side3 => exact HC0.out); rintro e w5 ⟨g381, rfl, hi, hb, hb2⟩; refine ⟨_, rfl, ?_⟩; replace HB := Aside0.mk hb; have HI381 := Aside0.mk hi; (try clear hb); (try clear hb2); (try clear hk); (try clear hi)) | ((with_reducible refine gate_callee (f := 79) rfl ?_); refine goesL_ (some 8) rfl rfl Tryz.func79 zb13 rfl #[.pointer (some ⟨g381, 0, none⟩), .int .i64 100000] rfl zb2 ?_; (with_reducible refine (spec_l01Below.calls g381 t378 t379 t380 100000 t382 t383 t384 w _ ?side1 ?side2 A3.out).mono ?_); (case side1 => exact zb31); (case side2 => exact zb28); rintro e w6 ⟨rfl, hi, hb, hk⟩; refine ⟨_, rfl, ?_⟩; replace HB := Aside0.mk hb; replace HI381 := Aside0.mk hi; (try clear hb); (try clear hb2); (try clear hk); (try clear hi)) | ((with_reducible refine gate_dst (N := 9) rfl ?_); refine Kd.R_lit (Kd.int .i64) _ 3 ?hg (N := 9) ?hd (xs := ([0, (-1), 10, 9223372036854775807, (-9223372036854775808), t382] : List Int)) (inner := [.int .i64 0, .int .i64 (-1), .int .i64 10, .int .i64 9223372036854775807, .int .i64 (-9223372036854775808), .int .i64 t382]) (ok := fun _ => True) (okp := fun _ => True) ?hr ?hp (fun _ hk => hk) trivial (Below.refl _ _) (Nat.le_refl _) zb26 ?_; (case hd => rfl); (case hg => rfl); (case hr => exact zb15); (case hp => exact zb36); intro v386 w7 ho8 hb hg_ hnew_; clear hg_ hnew_; (first | rw [← Ny385.out] at ho8 | (simp only [Int.reduceToNat] at ho8; rw [← Ny385.out] at ho8)); have HO387 := Aside0.mk (Kd.R_lower ho8 (below_size zb28)); replace HB := Aside0.mk (below_step zb28 hb); replace HI381 := Aside0.mk (IsS85.below zb31 hb); clear hb ho8; obtain ⟨Ao9, co9, eo9⟩ := Kd.R_slice HO387.out; subst eo9) | ((with_reducible refine gate_callee (f := 76) rfl ?_); refine goesL_ (some 10) rfl rfl Tryz.func76 zb13 rfl #[.pointer (some ⟨g381, 0, none⟩), .slice Ao9 y385.length co9] rfl zb2 ?_; (with_reducible refine (spec_l01PickInt.calls g381 t378 t383 t384 _ _ y385 t388 t389 t390 w _ ?side1 ?side2 ?side3 ?side4 ?side5 A4.out).mono ?_); (case side1 => exact zb31); (case side2 => exact zb28); (case side3 => repeat (first | exact (Kd.R_reads' HO387.out).2.2 | (with_reducible refine Kd.C_alloc ?_ _) | (with_reducible refine Kd.C_drewN ?_ _) | (with_reducible refine Kd.C_drew ?_))); (case side4 => exact (Kd.R_reads' HO387.out).2.1); (case side5 => exact far_slice (IsS85.own_ne HI381.out HO387.out zb33)); rintro e w10 ⟨rfl, hi, hb, hk⟩; refine ⟨_, rfl, ?_⟩; replace HO387 := Aside0.mk (Kd.R_mono (Kd.R_keep (IsS85.apart (show IsS85 w _ g381 t378 t383 t384 from zb31) (zR HO387.out) zb33) hk (fun _ h => h.2)) (fun _ h => h.1)); replace HB := Aside0.mk hb; replace HI381 := Aside0.mk hi; (try clear hb); (try clear hb2); (try clear hk); (try clear hi)))
 go_ret
 exact ⟨zb8, zb28⟩
end Go.Proofs.YtbfbomcfmgdpkaaGreatDoor.G

end
section
namespace Go.Proofs.YtbfbomcfmgdpkaaGreatDoor.VI
open Go Go.RowKit Go.Proofs.YtbfbomcfmgdpkaaGreatDoor.G Go.Proofs.YtbfbomcfmgdpkaaGreatDoorW.PrintWords
set_option maxRecDepth 100000
set_option maxHeartbeats 16000000
attribute [local irreducible] bite obind vget
theorem spec_DecText.vi {k m : Nat} {Gv : FuncId → Option (List VV → Option (VV × List VV))} (hG : Base Gv) (hm : k + 1 ≤ m) (a0 : Int) : Im (fun r => (.str r, [])) (spec_DecText.f k a0) (callv Tryz.prog ti keep Gv m 46 [.int a0]) := by
  obtain ⟨m, rfl⟩ : ∃ m', m = m' + 1 := ⟨m - 1, by omega⟩
  rw [show callv Tryz.prog ti keep Gv (m + 1) 46 _ = _ from callv_enter ((hG 46 (by decide) (by decide) (by decide) (by decide) (by decide) (by decide) (by decide) (by decide) (by decide) (by decide) (by decide) (by decide) (by decide) (by decide) (by decide) (by decide) (by decide)).trans rfl) Tryz.func46 (by kernel_rfl) rfl rfl]
  unfold spec_DecText.f
  repeat' first
    | (with_reducible first | exact Im.none | refine Im.ite (fun h => ?_) (fun h => ?_) | refine Im.sbind ?_)
    | ((conv => arg 3; whnf); first
      | ((with_reducible refine Im.fin ?_); exact zr)
      | ((with_reducible refine Im.anyo ?_ ?_); (next => kernel_rfl))
      | ((with_reducible refine Im.bite_t ?_ ?_); (next => exact zq))
      | ((with_reducible refine Im.bite_f ?_ ?_); (next => exact zq))
      | ((with_reducible refine Im.bite_t ?_ ?_); (next => exact zd))
      | ((with_reducible refine Im.must ?_ ?_); (next => exact zd))
      | ((with_reducible refine Im.bite_f ?_ ?_); (next => exact zd))
      | (with_reducible refine Im.byl ?_)
      | ((with_reducible refine Im.vget ByteArray.empty ?_ ?_ ?_); (next => exact zd); (next => exact zd))
      | ((with_reducible refine Im.vget (0 : Int) ?_ ?_ ?_); (next => exact zd); (next => exact zd))
      | ((with_reducible refine Im.vget false ?_ ?_ ?_); (next => exact zd); (next => exact zd))
      | ((with_reducible refine Im.loop (S := fun s : Int × ByteArray × Int => [.int s.1, .un, .un, .str s.2.1, .int s.2.2, .un, .un, .un, .un, .un, .un, .un, .un, .un, .un, .un, .un, .un, .un, .un, .un, .un, .un, .un, .un, .un, .un, .un, .un, .un]) (L := fun k s => spec_DecText.l0 k s.1 s.2.1 s.2.2) _ ?_ ?_ _ _ ⟨_, _, _⟩ _ (Nat.le_refl _) zo ?_)
         (next => intro s; rfl)
         (next =>
           intro k1 M1 ⟨x0, x3, x4⟩ hk1 hM1 ih1
           conv => arg 2; simp only [spec_DecText.l0]
           repeat' first
             | (with_reducible first | exact Im.none | refine Im.ite (fun h => ?_) (fun h => ?_) | refine Im.sbind ?_)
             | ((conv => arg 3; whnf); first
               | ((with_reducible refine Im.fin ?_); exact zr)
               | ((with_reducible refine Im.anyo ?_ ?_); (next => kernel_rfl))
               | ((with_reducible refine Im.bite_t ?_ ?_); (next => exact zq))
               | ((with_reducible refine Im.bite_f ?_ ?_); (next => exact zq))
               | ((with_reducible refine Im.bite_t ?_ ?_); (next => exact zd))
               | ((with_reducible refine Im.must ?_ ?_); (next => exact zd))
               | ((with_reducible refine Im.bite_f ?_ ?_); (next => exact zd))
               | (with_reducible refine Im.byl ?_)
               | ((with_reducible refine Im.vget ByteArray.empty ?_ ?_ ?_); (next => exact zd); (next => exact zd))
               | ((with_reducible refine Im.vget (0 : Int) ?_ ?_ ?_); (next => exact zd); (next => exact zd))
               | ((with_reducible refine Im.vget false ?_ ?_ ?_); (next => exact zd); (next => exact zd))
               | ((with_reducible refine ih1 _ ⟨_, _, _⟩ _ ?_ ?_); (next => exact zo); exact zr)
               | exact zm | exact zx | fail)
           all_goals skip)
         exact zr)
      | exact zm | exact zx | fail)
  all_goals skip
end Go.Proofs.YtbfbomcfmgdpkaaGreatDoor.VI

end
section
namespace Go.Proofs.YtbfbomcfmgdpkaaGreatDoor.G
open Go Go.RowKit Go.Proofs.YtbfbomcfmgdpkaaGreatDoorW.PrintWords Go.Proofs.YtbfbomcfmgdpkaaGreatDoor.VI
set_option maxRecDepth 100000
set_option linter.unusedVariables false
set_option linter.unusedSimpArgs false
theorem spec_DecText.calls (k : Nat) (a0 : Int) (r : ByteArray) (w : World) (hGE : Glob FactE w) (hGM : Glob FactM w) (hGT : Glob FactT w) (h : spec_DecText.f k a0 = some r) :
  Calls Tryz.prog 46 #[.int .i64 a0] w fun e w' => e = .returned (.string r) ∧ Below w.heap.size w w' := by
  have gws : ∀ a b, Below w.heap.size w a → Below w.heap.size a b → Below w.heap.size w b := fun a b h1 h2 => h1.trans h2
  have hok := callv_ok (P := Tryz.prog) (NG := w.heap.size) (GW := fun a => Below w.heap.size w a) VI.hti gws (keep := keep) (Gv := Gv0) (given_ok0 hGE hGM hGT) (fun C hC hc => any_sound (by kernel_rfl) (by rw [hC]; exact VI.hti) gws hc) (k + 1)
  exact CallOk1.calls (hok 46 _ _ rfl (spec_DecText.vi (k := k) (m := k + 1) base0 (Nat.le_refl _) a0 _ h)) (Below.refl _ _) (Nat.le_refl _) (.cons _ _ _ _ (.s _) .nil)
end Go.Proofs.YtbfbomcfmgdpkaaGreatDoor.G

end
section
namespace Go.Proofs.YtbfbomcfmgdpkaaGreatDoor.G
open Go.RowKit Go.Proofs.YtbfbomcfmgdpkaaGreatDoorW.PrintWords Go.Proofs.YtbfbomcfmgdpkaaGreatDoorW.PrintLast Go.Proofs.YtbfbomcfmgdpkaaGreatDoorW.PrintMore
attribute [local go_sem] max2_int min2_int max_two min_two max_three min_three max_four min_four
attribute [local go_sem high] Go.Proofs.YtbfbomcfmgdpkaaGreatDoor.G.str_gtr Go.Proofs.YtbfbomcfmgdpkaaGreatDoor.G.str_leq Go.Proofs.YtbfbomcfmgdpkaaGreatDoor.G.str_geq
set_option linter.unusedVariables false
set_option linter.unusedSimpArgs false
set_option maxHeartbeats 8000000 in
set_option maxRecDepth 100000 in
theorem spec_l01Once.calls (g : Nat) (s0_0 : List Int) (s0_1 : Int) (s0_2 : Int) (a1 : Int) (r1 : Bool) (r2 : Int) (r3 : Int) (w0 w : World) (hI : IsS85 w0 w g s0_0 s0_1 s0_2) (hB : Below w0.heap.size w0 w) (h : spec_l01Once.f s0_0 s0_1 s0_2 a1 = some (r1, r2, r3)) :
  Calls Tryz.prog 81 #[.pointer (some ⟨g, 0, none⟩), .int .i64 a1] w fun e w' => e = .returned (.bool r1) ∧ IsS85 w0 w' g s0_0 r2 r3 ∧ Below w0.heap.size w0 w' ∧ KeepBut w w' g none := by
 have HI0 := Aside0.mk hI
 have HK := Aside0.mk (KeepBut.refl w g none)
 have HL := Aside0.mk hB.size
 clear hI
 have HW0 := Aside0.mk hB.size
 have HB := Aside0.mk hB
 clear hB
 have H : ((spec_l01Below.f s0_0 s0_1 s0_2 a1).bind fun bt391 => (some ((bt391.1 == 0), bt391.2.1, bt391.2.2))) = some (r1, r2, r3) := h
 clear h
 replace H := Option.bind_eq_some_iff.mp H
 obtain ⟨⟨t391, t392, t393⟩, A30, H⟩ := H
 try dsimp only at H
 have A3 := Aside0.mk A30
 clear A30
 simp only [Option.some.injEq, Prod.mk.injEq] at H
 obtain ⟨rfl, rfl, rfl⟩ := H
 go_enter Tryz.func81, Tryz.ntmps81
 go_wp2_with (first | ((with_reducible refine gate_callee (f := 79) rfl ?_); refine goesL_ (some 7) rfl rfl Tryz.func79 zb13 rfl #[.pointer (some ⟨g, 0, none⟩), .int .i64 a1] rfl zb2 ?_; (with_reducible refine (spec_l01Below.calls g s0_0 s0_1 s0_2 a1 t391 t392 t393 w0 _ ?side1 ?side2 A3.out).mono ?_); (case side1 => exact zb1); (case side2 => exact zb3); rintro e w4 ⟨rfl, hi, hb, hk⟩; refine ⟨_, rfl, ?_⟩; replace HK := Aside0.mk (KeepBut.trans zb4 hk (.inl rfl)); replace HB := Aside0.mk hb; replace HI0 := Aside0.mk hi; (try clear hb)))
 go_ret
 exact ⟨zb8, zb1, zb3, zb4⟩
set_option maxHeartbeats 8000000 in
set_option maxRecDepth 100000 in
theorem spec_DrawReadDec.calls (k : Nat) (A0 : Option Addr) (c0 : Nat) (l0 : List Int) (r : ByteArray) (w : World) (hr0 : Kd.C (Kd.int .u8) w A0 l0.length l0) (hc0 : l0.length ≤ c0) (hGE : Glob FactE w) (hGM : Glob FactM w) (hGT : Glob FactT w) (h : spec_DrawReadDec.f k l0 = some r) :
  Calls Tryz.prog 33 #[.slice A0 l0.length c0] w fun e w' => e = .returned (.string r) ∧ Below w.heap.size w w' := by
 have HR0 := Aside0.mk hr0
 have HC0 := Aside0.mk hc0
 clear hr0 hc0
 have HB := Aside0.mk (Below.refl w.heap.size w)
 have HGE := Aside0.mk hGE
 clear hGE
 have HGM := Aside0.mk hGM
 clear hGM
 have HGT := Aside0.mk hGT
 clear hGT
 have H : ((spec_l01New.f k l0).bind fun bt394 => ((spec_l01Once.f bt394.1 bt394.2.1 bt394.2.2 2).bind fun bt398 => (if bt398.1 = true then ((spec_l01Pick.f bt394.1 bt398.2.1 bt398.2.2 (([(⟨#[]⟩ : ByteArray), (⟨#[45, 49]⟩ : ByteArray), (⟨#[48, 48]⟩ : ByteArray), (⟨#[48, 49]⟩ : ByteArray), (⟨#[49, 120]⟩ : ByteArray), (⟨#[57, 57, 57, 57, 57, 57, 57, 57, 57]⟩ : ByteArray), (⟨#[49, 48, 48, 48, 48, 48, 48, 48, 48, 48]⟩ : ByteArray), (⟨#[49, 56, 52, 52, 54, 55, 52, 52, 48, 55, 51, 55, 48, 57, 53, 53, 49, 54, 49, 55]⟩ : ByteArray)] : List ByteArray))).bind fun bt404 => (some bt404.1)) else ((spec_l01Below.f bt394.1 bt398.2.1 bt398.2.2 100000).bind fun bt407 => ((spec_DecText.f k bt407.1).bind fun t410 => (some t410)))))) = some r := h
 clear h
 replace H := Option.bind_eq_some_iff.mp H
 obtain ⟨⟨t394, t395, t396⟩, A20, H⟩ := H
 try dsimp only at H
 have A2 := Aside0.mk A20
 clear A20
 replace H := Option.bind_eq_some_iff.mp H
 obtain ⟨⟨t398, t399, t400⟩, A30, H⟩ := H
 try dsimp only at H
 have A3 := Aside0.mk A30
 clear A30
 by_cases c4 : t398 = true
 ·subst c4
  rw [if_pos rfl] at H
  obtain ⟨y401, hy401⟩ : ∃ y_ : List ByteArray, y_ = (([(⟨#[]⟩ : ByteArray), (⟨#[45, 49]⟩ : ByteArray), (⟨#[48, 48]⟩ : ByteArray), (⟨#[48, 49]⟩ : ByteArray), (⟨#[49, 120]⟩ : ByteArray), (⟨#[57, 57, 57, 57, 57, 57, 57, 57, 57]⟩ : ByteArray), (⟨#[49, 48, 48, 48, 48, 48, 48, 48, 48, 48]⟩ : ByteArray), (⟨#[49, 56, 52, 52, 54, 55, 52, 52, 48, 55, 51, 55, 48, 57, 53, 53, 49, 54, 49, 55]⟩ : ByteArray)] : List ByteArray)) := ⟨_, rfl⟩
  first | replace H := hb1 H (show (spec_l01Pick.f t394 t399 t400 y401) = _ from (by rw [hy401])) | replace H := hb1 (hb2 H) (show (spec_l01Pick.f t394 t399 t400 y401) = _ from (by rw [hy401]))
  have Ny401 := Aside0.mk hy401
  clear hy401
  replace H := Option.bind_eq_some_iff.mp H
  obtain ⟨⟨t404, t405, t406⟩, A50, H⟩ := H
  replace H : (some t404) = some r := H
  have A5 := Aside0.mk A50
  clear A50
  obtain rfl := Option.some.inj H
  go_enter Tryz.func33, Tryz.ntmps33
  go_wp2_with (first | ((with_reducible refine gate_callee (f := 54) rfl ?_); refine goesL_ (some 5) rfl rfl Tryz.func54 zb13 rfl #[.slice A0 l0.length c0] rfl zb2 ?_; (with_reducible refine (spec_l01New.calls k _ _ l0 t394 t395 t396 w _ ?side1 ?side2 ?side3 A2.out).mono ?_); (case side1 => exact zb0); (case side2 => exact HR0.out); (case side3 => exact HC0.out); rintro e w6 ⟨g397, rfl, hi, hb, hb2⟩; refine ⟨_, rfl, ?_⟩; replace HB := Aside0.mk hb; have HI397 := Aside0.mk hi; (try clear hb); (try clear hb2); (try clear hk); (try clear hi)) | ((with_reducible refine gate_callee (f := 81) rfl ?_); refine goesL_ (some 7) rfl rfl Tryz.func81 zb13 rfl #[.pointer (some ⟨g397, 0, none⟩), .int .i64 2] rfl zb2 ?_; (with_reducible refine (spec_l01Once.calls g397 t394 t395 t396 2 true t399 t400 w _ ?side1 ?side2 A3.out).mono ?_); (case side1 => exact zb21); (case side2 => exact zb10); rintro e w7 ⟨rfl, hi, hb, hk⟩; refine ⟨_, rfl, ?_⟩; replace HB := Aside0.mk hb; replace HI397 := Aside0.mk hi; (try clear hb); (try clear hb2); (try clear hk); (try clear hi)) | ((with_reducible refine gate_dst (N := 9) rfl ?_); refine Kd.R_lit Kd.string _ 9 ?hg (N := 9) ?hd (xs := ([(⟨#[]⟩ : ByteArray), (⟨#[45, 49]⟩ : ByteArray), (⟨#[48, 48]⟩ : ByteArray), (⟨#[48, 49]⟩ : ByteArray), (⟨#[49, 120]⟩ : ByteArray), (⟨#[57, 57, 57, 57, 57, 57, 57, 57, 57]⟩ : ByteArray), (⟨#[49, 48, 48, 48, 48, 48, 48, 48, 48, 48]⟩ : ByteArray), (⟨#[49, 56, 52, 52, 54, 55, 52, 52, 48, 55, 51, 55, 48, 57, 53, 53, 49, 54, 49, 55]⟩ : ByteArray)] : List ByteArray)) (inner := [.string (⟨#[]⟩ : ByteArray), .string (⟨#[45, 49]⟩ : ByteArray), .string (⟨#[48, 48]⟩ : ByteArray), .string (⟨#[48, 49]⟩ : ByteArray), .string (⟨#[49, 120]⟩ : ByteArray), .string (⟨#[57, 57, 57, 57, 57, 57, 57, 57, 57]⟩ : ByteArray), .string (⟨#[49, 48, 48, 48, 48, 48, 48, 48, 48, 48]⟩ : ByteArray), .string (⟨#[49, 56, 52, 52, 54, 55, 52, 52, 48, 55, 51, 55, 48, 57, 53, 53, 49, 54, 49, 55]⟩ : ByteArray)]) (ok := fun _ => True) (okp := fun _ => True) ?hr ?hp (fun _ hk => hk) trivial (Below.refl _ _) (Nat.le_refl _) zb26 ?_; (case hd => rfl); (case hg => rfl); (case hr => exact zb15); (case hp => exact zb16); intro v402 w8 ho9 hb hg_ hnew_; clear hg_ hnew_; (first | rw [← Ny401.out] at ho9 | (simp only [Int.reduceToNat] at ho9; rw [← Ny401.out] at ho9)); have HO403 := Aside0.mk (Kd.R_lower ho9 (below_size zb10)); replace HB := Aside0.mk (below_step zb10 hb); replace HI397 := Aside0.mk (IsS85.below zb21 hb); clear hb ho9; obtain ⟨Ao10, co10, eo10⟩ := Kd.R_slice HO403.out; subst eo10) | ((with_reducible refine gate_callee (f := 80) rfl ?_); refine goesL_ (some 10) rfl rfl Tryz.func80 zb13 rfl #[.pointer (some ⟨g397, 0, none⟩), .slice Ao10 y401.length co10] rfl zb2 ?_; (with_reducible refine (spec_l01Pick.calls g397 t394 t399 t400 _ _ y401 t404 t405 t406 w _ ?side1 ?side2 ?side3 ?side4 ?side5 A5.out).mono ?_); (case side1 => exact zb21); (case side2 => exact zb10); (case side3 => repeat (first | exact (Kd.R_reads' HO403.out).2.2 | (with_reducible refine Kd.C_alloc ?_ _) | (with_reducible refine Kd.C_drewN ?_ _) | (with_reducible refine Kd.C_drew ?_))); (case side4 => exact (Kd.R_reads' HO403.out).2.1); (case side5 => exact far_slice (IsS85.own_ne HI397.out HO403.out zb33)); rintro e w11 ⟨rfl, hi, hb, hk⟩; refine ⟨_, rfl, ?_⟩; replace HO403 := Aside0.mk (Kd.R_mono (Kd.R_keep (IsS85.apart (show IsS85 w _ g397 t394 t399 t400 from zb21) (zR HO403.out) zb33) hk (fun _ h => h.2)) (fun _ h => h.1)); replace HB := Aside0.mk hb; replace HI397 := Aside0.mk hi; (try clear hb); (try clear hb2); (try clear hk); (try clear hi)))
  go_ret
  exact ⟨zb8, zb10⟩
 ·replace c4 := Bool.eq_false_iff.mpr c4
  subst c4
  rw [if_neg (show ¬ (false = true) by decide)] at H
  replace H := Option.bind_eq_some_iff.mp H
  obtain ⟨⟨t407, t408, t409⟩, A120, H⟩ := H
  try dsimp only at H
  have A12 := Aside0.mk A120
  clear A120
  replace H := Option.bind_eq_some_iff.mp H
  obtain ⟨t410, A130, H⟩ := H
  replace H : (some t410) = some r := H
  have A13 := Aside0.mk A130
  clear A130
  obtain rfl := Option.some.inj H
  go_enter Tryz.func33, Tryz.ntmps33
  go_wp2_with (first | ((with_reducible refine gate_callee (f := 54) rfl ?_); refine goesL_ (some 5) rfl rfl Tryz.func54 zb13 rfl #[.slice A0 l0.length c0] rfl zb2 ?_; (with_reducible refine (spec_l01New.calls k _ _ l0 t394 t395 t396 w _ ?side1 ?side2 ?side3 A2.out).mono ?_); (case side1 => exact zb0); (case side2 => exact HR0.out); (case side3 => exact HC0.out); rintro e w14 ⟨g397, rfl, hi, hb, hb2⟩; refine ⟨_, rfl, ?_⟩; replace HB := Aside0.mk hb; have HI397 := Aside0.mk hi; (try clear hb); (try clear hb2); (try clear hk); (try clear hi)) | ((with_reducible refine gate_callee (f := 81) rfl ?_); refine goesL_ (some 7) rfl rfl Tryz.func81 zb13 rfl #[.pointer (some ⟨g397, 0, none⟩), .int .i64 2] rfl zb2 ?_; (with_reducible refine (spec_l01Once.calls g397 t394 t395 t396 2 false t399 t400 w _ ?side1 ?side2 A3.out).mono ?_); (case side1 => exact zb21); (case side2 => exact zb10); rintro e w15 ⟨rfl, hi, hb, hk⟩; refine ⟨_, rfl, ?_⟩; replace HB := Aside0.mk hb; replace HI397 := Aside0.mk hi; (try clear hb); (try clear hb2); (try clear hk); (try clear hi)) | ((with_reducible refine gate_callee (f := 79) rfl ?_); refine goesL_ (some 12) rfl rfl Tryz.func79 zb13 rfl #[.pointer (some ⟨g397, 0, none⟩), .int .i64 100000] rfl zb2 ?_; (with_reducible refine (spec_l01Below.calls g397 t394 t399 t400 100000 t407 t408 t409 w _ ?side1 ?side2 A12.out).mono ?_); (case side1 => exact zb21); (case side2 => exact zb10); rintro e w16 ⟨rfl, hi, hb, hk⟩; refine ⟨_, rfl, ?_⟩; replace HB := Aside0.mk hb; replace HI397 := Aside0.mk hi; (try clear hb); (try clear hb2); (try clear hk); (try clear hi)) | ((with_reducible refine gate_callee (f := 46) rfl ?_); refine goesL_ (some 13) rfl rfl Tryz.func46 zb13 rfl #[.int .i64 t407] rfl zb2 ?_; (with_reducible refine (spec_DecText.calls k t407 t410 _ ?side1 ?side2 ?side3 A13.out).mono ?_); (case side1 => exact Glob.below HGE.out zb10); (case side2 => exact Glob.below HGM.out zb10); (case side3 => exact Glob.below HGT.out zb10); rintro e w17 ⟨rfl, hb⟩; refine ⟨_, rfl, ?_⟩; replace HB := Aside0.mk (below_step zb10 hb); replace HI397 := Aside0.mk (IsS85.below zb21 hb); (try clear hb); (try clear hb2); (try clear hk); (try clear hi)))
  go_ret
  exact ⟨zb8, zb10⟩
set_option maxHeartbeats 8000000 in
set_option maxRecDepth 100000 in
theorem spec_DrawPlace.calls (k : Nat) (A0 : Option Addr) (c0 : Nat) (l0 : List Int) (r1 : ByteArray) (r2 : Int) (w : World) (hr0 : Kd.C (Kd.int .u8) w A0 l0.length l0) (hc0 : l0.length ≤ c0) (h : spec_DrawPlace.f k l0 = some (r1, r2)) :
  Calls Tryz.prog 34 #[.slice A0 l0.length c0] w fun e w' => e = .returned (.tuple #[.string r1, .int .i64 r2]) ∧ Below w.heap.size w w' := by
 have HR0 := Aside0.mk hr0
 have HC0 := Aside0.mk hc0
 clear hr0 hc0
 have HB := Aside0.mk (Below.refl w.heap.size w)
 have H : ((spec_l01New.f k l0).bind fun bt411 => ((spec_DrawLines.f k l0).bind fun t415 => ((spec_l01PickInt.f bt411.1 bt411.2.1 bt411.2.2 (([0, 1, 2, (t415.size : Int), wrap64 ((t415.size : Int) + 1), (-1)] : List Int))).bind fun bt419 => (some (t415, bt419.1))))) = some (r1, r2) := h
 clear h
 replace H := Option.bind_eq_some_iff.mp H
 obtain ⟨⟨t411, t412, t413⟩, A20, H⟩ := H
 try dsimp only at H
 have A2 := Aside0.mk A20
 clear A20
 replace H := Option.bind_eq_some_iff.mp H
 obtain ⟨t415, A30, H⟩ := H
 try dsimp only at H
 have A3 := Aside0.mk A30
 clear A30
 obtain ⟨y416, hy416⟩ : ∃ y_ : List Int, y_ = (([0, 1, 2, (t415.size : Int), wrap64 ((t415.size : Int) + 1), (-1)] : List Int)) := ⟨_, rfl⟩
 first | replace H := hb1 H (show (spec_l01PickInt.f t411 t412 t413 y416) = _ from (by rw [hy416])) | replace H := hb1 (hb2 H) (show (spec_l01PickInt.f t411 t412 t413 y416) = _ from (by rw [hy416]))
 have Ny416 := Aside0.mk hy416
 clear hy416
 replace H := Option.bind_eq_some_iff.mp H
 obtain ⟨⟨t419, t420, t421⟩, A40, H⟩ := H
 try dsimp only at H
 have A4 := Aside0.mk A40
 clear A40
 simp only [Option.some.injEq, Prod.mk.injEq] at H
 obtain ⟨rfl, rfl⟩ := H
 go_enter Tryz.func34, Tryz.ntmps34
 go_wp2_with (first | ((with_reducible refine gate_callee (f := 54) rfl ?_); refine goesL_ (some 7) rfl rfl Tryz.func54 zb13 rfl #[.slice A0 l0.length c0] rfl zb2 ?_; (with_reducible refine (spec_l01New.calls k _ _ l0 t411 t412 t413 w _ ?side1 ?side2 ?side3 A2.out).mono ?_); (case side1 => exact zb0); (case side2 => exact HR0.out); (case side3 => exact HC0.out); rintro e w5 ⟨g414, rfl, hi, hb, hb2⟩; refine ⟨_, rfl, ?_⟩; replace HB := Aside0.mk hb; have HI414 := Aside0.mk hi; (try clear hb); (try clear hb2); (try clear hk); (try clear hi)) | ((with_reducible refine gate_callee (f := 27) rfl ?_); refine goesL_ (some 9) rfl rfl Tryz.func27 zb13 rfl #[.slice A0 l0.length c0] rfl zb2 ?_; (with_reducible refine (spec_DrawLines.calls k _ _ l0 t415 _ ?side1 ?side2 A3.out).mono ?_); (case side1 => repeat (first | exact (Kd.C_below HR0.out HB.out) | (with_reducible refine Kd.C_alloc ?_ _) | (with_reducible refine Kd.C_drewN ?_ _) | (with_reducible refine Kd.C_drew ?_))); (case side2 => exact HC0.out); rintro e w6 ⟨rfl, hb⟩; refine ⟨_, rfl, ?_⟩; replace HB := Aside0.mk (below_step zb27 hb); replace HI414 := Aside0.mk (IsS85.below zb30 hb); (try clear hb); (try clear hb2); (try clear hk); (try clear hi)) | ((with_reducible refine gate_dst (N := 17) rfl ?_); refine Kd.R_lit (Kd.int .i64) _ 3 ?hg (N := 17) ?hd (xs := ([0, 1, 2, (t415.size : Int), wrap64 ((t415.size : Int) + 1), (-1)] : List Int)) (inner := [.int .i64 0, .int .i64 1, .int .i64 2, .int .i64 (t415.size : Int), .int .i64 (wrap64 ((t415.size : Int) + 1)), .int .i64 (-1)]) (ok := fun _ => True) (okp := fun _ => True) ?hr ?hp (fun _ hk => hk) trivial (Below.refl _ _) (Nat.le_refl _) zb26 ?_; (case hd => rfl); (case hg => rfl); (case hr => exact zb15); (case hp => exact zb36); intro v417 w7 ho8 hb hg_ hnew_; clear hg_ hnew_; (first | rw [← Ny416.out] at ho8 | (simp only [Int.reduceToNat] at ho8; rw [← Ny416.out] at ho8)); have HO418 := Aside0.mk (Kd.R_lower ho8 (below_size zb27)); replace HB := Aside0.mk (below_step zb27 hb); replace HI414 := Aside0.mk (IsS85.below zb30 hb); clear hb ho8; obtain ⟨Ao9, co9, eo9⟩ := Kd.R_slice HO418.out; subst eo9) | ((with_reducible refine gate_callee (f := 76) rfl ?_); refine goesL_ (some 18) rfl rfl Tryz.func76 zb13 rfl #[.pointer (some ⟨g414, 0, none⟩), .slice Ao9 y416.length co9] rfl zb2 ?_; (with_reducible refine (spec_l01PickInt.calls g414 t411 t412 t413 _ _ y416 t419 t420 t421 w _ ?side1 ?side2 ?side3 ?side4 ?side5 A4.out).mono ?_); (case side1 => exact zb30); (case side2 => exact zb27); (case side3 => repeat (first | exact (Kd.R_reads' HO418.out).2.2 | (with_reducible refine Kd.C_alloc ?_ _) | (with_reducible refine Kd.C_drewN ?_ _) | (with_reducible refine Kd.C_drew ?_))); (case side4 => exact (Kd.R_reads' HO418.out).2.1); (case side5 => exact far_slice (IsS85.own_ne HI414.out HO418.out zb33)); rintro e w10 ⟨rfl, hi, hb, hk⟩; refine ⟨_, rfl, ?_⟩; replace HO418 := Aside0.mk (Kd.R_mono (Kd.R_keep (IsS85.apart (show IsS85 w _ g414 t411 t412 t413 from zb30) (zR HO418.out) zb33) hk (fun _ h => h.2)) (fun _ h => h.1)); replace HB := Aside0.mk hb; replace HI414 := Aside0.mk hi; (try clear hb); (try clear hb2); (try clear hk); (try clear hi)))
 go_ret2
 exact ⟨zb8, zb27⟩
set_option maxHeartbeats 8000000 in
set_option maxRecDepth 100000 in
theorem impl_Place.calls (a0 : ByteArray) (a1 : Int) (r1 : Int) (r2 : Int) (w : World) (h : impl_Place.f a0 a1 = some (r1, r2)) :
  Calls Tryz.prog 35 #[.string a0, .int .i64 a1] w fun e w' => e = .returned (.tuple #[.int .i64 r1, .int .i64 r2]) ∧ Drawn0 w w' := by
 have H : ((impl_within.f a1 0 (a0.size : Int)).bind fun t422 => (if t422 = true then (if 0 ≤ a1 then (if a1 ≤ (a0.size : Int) then ((strings_Count.f (a0.extract 0 (a1 : Int).toNat) (⟨#[10]⟩ : ByteArray)).bind fun t423 => ((strings_LastIndex.f (a0.extract 0 (a1 : Int).toNat) (⟨#[10]⟩ : ByteArray)).bind fun t424 => (some (wrap64 (1 + t423), wrap64 (a1 - t424))))) else (none)) else (none)) else (some (0, 0)))) = some (r1, r2) := h
 clear h
 replace H := Option.bind_eq_some_iff.mp H
 obtain ⟨t422, A30, H⟩ := H
 try dsimp only at H
 have A3 := Aside0.mk A30
 clear A30
 by_cases c4 : t422 = true
 ·subst c4
  rw [if_pos rfl] at H
  by_cases c5 : 0 ≤ a1
  ·rw [if_pos c5] at H
   have c5b0 := eq_true c5
   have c5b1 : decide (0 ≤ a1) = true := decide_eq_true c5
   clear c5
   by_cases c6 : a1 ≤ (a0.size : Int)
   ·rw [if_pos c6] at H
    have c6b0 := eq_true c6
    have c6b1 : decide (a1 ≤ (a0.size : Int)) = true := decide_eq_true c6
    clear c6
    obtain ⟨js7, hjs7⟩ : ∃ j_ : ByteArray, (a0.extract 0 (a1 : Int).toNat) = j_ := ⟨_, rfl⟩
    replace H : ((strings_Count.f (js7) (⟨#[10]⟩ : ByteArray)).bind fun t423 => ((strings_LastIndex.f (js7) (⟨#[10]⟩ : ByteArray)).bind fun t424 => (some (wrap64 (1 + t423), wrap64 (a1 - t424))))) = some (r1, r2) := by first | (rw [hjs7] at H; exact H) | (simp only [hjs7] at H ⊢; exact H)
    (try rw [hjs7] at A3)
    replace H := Option.bind_eq_some_iff.mp H
    obtain ⟨t423, A80, H⟩ := H
    try dsimp only at H
    have A8 := Aside0.mk A80
    clear A80
    have c9b0 := eq_true (of_decide_eq_true zb5 : 0 ≤ a1)
    have c10b0 := eq_true (of_decide_eq_true zb5 : a1 ≤ (a0.size : Int))
    replace H := Option.bind_eq_some_iff.mp H
    obtain ⟨t424, A110, H⟩ := H
    try dsimp only at H
    have A11 := Aside0.mk A110
    clear A110
    simp only [Option.some.injEq, Prod.mk.injEq] at H
    obtain ⟨rfl, rfl⟩ := H
    go_enter Tryz.func35, Tryz.ntmps35
    go_wp2_with (first | (go_at_call 67; (with_reducible refine (impl_within.calls a1 0 (a0.size : Int) true _ A3.out).mono ?_); rintro e w' ⟨rfl, ⟨nd, rfl⟩⟩; (try exact zb6)) | (go_at_call 82; (with_reducible refine (strings_Count.calls js7 (⟨#[10]⟩ : ByteArray) t423 _ A8.out).mono ?_); rintro e w' ⟨rfl, ⟨nd, rfl⟩⟩; (try exact zb6)) | (go_at_call 83; (with_reducible refine (strings_LastIndex.calls js7 (⟨#[10]⟩ : ByteArray) t424 _ A11.out).mono ?_); rintro e w' ⟨rfl, ⟨nd, rfl⟩⟩; (try exact zb6)))
    repeat (go_quiet (first | (go_at_call 67; (with_reducible refine (impl_within.calls a1 0 (a0.size : Int) true _ A3.out).mono ?_); rintro e w' ⟨rfl, ⟨nd, rfl⟩⟩; (try exact zb6)) | (go_at_call 82; (with_reducible refine (strings_Count.calls js7 (⟨#[10]⟩ : ByteArray) t423 _ A8.out).mono ?_); rintro e w' ⟨rfl, ⟨nd, rfl⟩⟩; (try exact zb6)) | (go_at_call 83; (with_reducible refine (strings_LastIndex.calls js7 (⟨#[10]⟩ : ByteArray) t424 _ A11.out).mono ?_); rintro e w' ⟨rfl, ⟨nd, rfl⟩⟩; (try exact zb6))); try go_wp2_with (first | (go_at_call 67; (with_reducible refine (impl_within.calls a1 0 (a0.size : Int) true _ A3.out).mono ?_); rintro e w' ⟨rfl, ⟨nd, rfl⟩⟩; (try exact zb6)) | (go_at_call 82; (with_reducible refine (strings_Count.calls js7 (⟨#[10]⟩ : ByteArray) t423 _ A8.out).mono ?_); rintro e w' ⟨rfl, ⟨nd, rfl⟩⟩; (try exact zb6)) | (go_at_call 83; (with_reducible refine (strings_LastIndex.calls js7 (⟨#[10]⟩ : ByteArray) t424 _ A11.out).mono ?_); rintro e w' ⟨rfl, ⟨nd, rfl⟩⟩; (try exact zb6))))
    go_ret2
    exact ⟨(by first | rfl | (simp; done) | (simp only [← hjs7] <;> (first | rfl | simp)) | (simp [*]; done)), zb35⟩
   ·rw [if_neg c6] at H
    exact absurd H zb26
  ·rw [if_neg c5] at H
   exact absurd H zb26
 ·replace c4 := Bool.eq_false_iff.mpr c4
  subst c4
  rw [if_neg (show ¬ (false = true) by decide)] at H
  simp only [Option.some.injEq, Prod.mk.injEq] at H
  obtain ⟨rfl, rfl⟩ := H
  go_enter Tryz.func35, Tryz.ntmps35
  go_wp2_with (first | (go_at_call 67; (with_reducible refine (impl_within.calls a1 0 (a0.size : Int) false _ A3.out).mono ?_); rintro e w' ⟨rfl, ⟨nd, rfl⟩⟩; (try exact zb6)))
  repeat (go_quiet (first | (go_at_call 67; (with_reducible refine (impl_within.calls a1 0 (a0.size : Int) false _ A3.out).mono ?_); rintro e w' ⟨rfl, ⟨nd, rfl⟩⟩; (try exact zb6))); try go_wp2_with (first | (go_at_call 67; (with_reducible refine (impl_within.calls a1 0 (a0.size : Int) false _ A3.out).mono ?_); rintro e w' ⟨rfl, ⟨nd, rfl⟩⟩; (try exact zb6))))
  go_ret2
  exact ⟨zb7, zb35⟩
set_option maxHeartbeats 8000000 in
set_option maxRecDepth 100000 in
theorem spec_l01Name.calls (g : Nat) (s0_0 : List Int) (s0_1 : Int) (s0_2 : Int) (r1 : ByteArray) (r2 : Int) (r3 : Int) (w0 w : World) (hI : IsS85 w0 w g s0_0 s0_1 s0_2) (hB : Below w0.heap.size w0 w) (h : spec_l01Name.f s0_0 s0_1 s0_2 = some (r1, r2, r3)) :
  Calls Tryz.prog 85 #[.pointer (some ⟨g, 0, none⟩)] w fun e w' => e = .returned (.string r1) ∧ IsS85 w0 w' g s0_0 r2 r3 ∧ Below w0.heap.size w0 w' ∧ KeepBut w w' g none := by
 have HI0 := Aside0.mk hI
 have HK := Aside0.mk (KeepBut.refl w g none)
 have HL := Aside0.mk hB.size
 clear hI
 have HW0 := Aside0.mk hB.size
 have HB := Aside0.mk hB
 clear hB
 have H : ((spec_l01Pick.f s0_0 s0_1 s0_2 (([(⟨#[97]⟩ : ByteArray), (⟨#[98]⟩ : ByteArray), (⟨#[99, 111, 114, 101]⟩ : ByteArray), (⟨#[108, 101, 102, 116, 45, 112, 97, 100]⟩ : ByteArray), (⟨#[64, 111, 114, 103, 47, 117, 105]⟩ : ByteArray), (⟨#[103, 111, 108, 97, 110, 103, 46, 111, 114, 103, 47, 120, 47, 116, 101, 120, 116]⟩ : ByteArray), (⟨#[108, 105, 98, 95, 99]⟩ : ByteArray), (⟨#[122, 101, 100]⟩ : ByteArray)] : List ByteArray))).bind fun bt435 => (some (bt435.1, bt435.2.1, bt435.2.2))) = some (r1, r2, r3) := h
 clear h
 obtain ⟨y432, hy432⟩ : ∃ y_ : List ByteArray, y_ = (([(⟨#[97]⟩ : ByteArray), (⟨#[98]⟩ : ByteArray), (⟨#[99, 111, 114, 101]⟩ : ByteArray), (⟨#[108, 101, 102, 116, 45, 112, 97, 100]⟩ : ByteArray), (⟨#[64, 111, 114, 103, 47, 117, 105]⟩ : ByteArray), (⟨#[103, 111, 108, 97, 110, 103, 46, 111, 114, 103, 47, 120, 47, 116, 101, 120, 116]⟩ : ByteArray), (⟨#[108, 105, 98, 95, 99]⟩ : ByteArray), (⟨#[122, 101, 100]⟩ : ByteArray)] : List ByteArray)) := ⟨_, rfl⟩
 first | replace H := hb1 H (show (spec_l01Pick.f s0_0 s0_1 s0_2 y432) = _ from (by rw [hy432])) | replace H := hb1 (hb2 H) (show (spec_l01Pick.f s0_0 s0_1 s0_2 y432) = _ from (by rw [hy432]))
 have Ny432 := Aside0.mk hy432
 clear hy432
 replace H := Option.bind_eq_some_iff.mp H
 obtain ⟨⟨t435, t436, t437⟩, A20, H⟩ := H
 try dsimp only at H
 have A2 := Aside0.mk A20
 clear A20
 simp only [Option.some.injEq, Prod.mk.injEq] at H
 obtain ⟨rfl, rfl, rfl⟩ := H
 go_enter Tryz.func85, Tryz.ntmps85
 go_wp2_with (first | ((with_reducible refine gate_dst (N := 4) rfl ?_); refine Kd.R_lit Kd.string _ 9 ?hg (N := 4) ?hd (xs := ([(⟨#[97]⟩ : ByteArray), (⟨#[98]⟩ : ByteArray), (⟨#[99, 111, 114, 101]⟩ : ByteArray), (⟨#[108, 101, 102, 116, 45, 112, 97, 100]⟩ : ByteArray), (⟨#[64, 111, 114, 103, 47, 117, 105]⟩ : ByteArray), (⟨#[103, 111, 108, 97, 110, 103, 46, 111, 114, 103, 47, 120, 47, 116, 101, 120, 116]⟩ : ByteArray), (⟨#[108, 105, 98, 95, 99]⟩ : ByteArray), (⟨#[122, 101, 100]⟩ : ByteArray)] : List ByteArray)) (inner := [.string (⟨#[97]⟩ : ByteArray), .string (⟨#[98]⟩ : ByteArray), .string (⟨#[99, 111, 114, 101]⟩ : ByteArray), .string (⟨#[108, 101, 102, 116, 45, 112, 97, 100]⟩ : ByteArray), .string (⟨#[64, 111, 114, 103, 47, 117, 105]⟩ : ByteArray), .string (⟨#[103, 111, 108, 97, 110, 103, 46, 111, 114, 103, 47, 120, 47, 116, 101, 120, 116]⟩ : ByteArray), .string (⟨#[108, 105, 98, 95, 99]⟩ : ByteArray), .string (⟨#[122, 101, 100]⟩ : ByteArray)]) (ok := fun _ => True) (okp := fun _ => True) ?hr ?hp (fun _ hk => hk) trivial (Below.refl _ _) (Nat.le_refl _) zb26 ?_; (case hd => rfl); (case hg => rfl); (case hr => exact zb15); (case hp => exact zb16); intro v433 w3 ho4 hb hg_ hnew_; clear hg_ hnew_; (first | rw [← Ny432.out] at ho4 | (simp only [Int.reduceToNat] at ho4; rw [← Ny432.out] at ho4)); have HO434 := Aside0.mk (Kd.R_lower ho4 (keep_size (w := w) (g := g) (row := none) zb4)); replace HK := Aside0.mk (KeepBut.trans zb4 (KeepBut.of_below hb g none) (.inl rfl)); replace HB := Aside0.mk (below_step zb3 hb); replace HI0 := Aside0.mk (IsS85.below zb1 hb); clear hb ho4; obtain ⟨Ao5, co5, eo5⟩ := Kd.R_slice HO434.out; subst eo5) | ((with_reducible refine gate_callee (f := 80) rfl ?_); refine goesL_ (some 5) rfl rfl Tryz.func80 zb13 rfl #[.pointer (some ⟨g, 0, none⟩), .slice Ao5 y432.length co5] rfl zb2 ?_; (with_reducible refine (spec_l01Pick.calls g s0_0 s0_1 s0_2 _ _ y432 t435 t436 t437 w0 _ ?side1 ?side2 ?side3 ?side4 ?side5 A2.out).mono ?_); (case side1 => exact zb1); (case side2 => exact zb3); (case side3 => repeat (first | exact (Kd.R_reads' HO434.out).2.2 | (with_reducible refine Kd.C_alloc ?_ _) | (with_reducible refine Kd.C_drewN ?_ _) | (with_reducible refine Kd.C_drew ?_))); (case side4 => exact (Kd.R_reads' HO434.out).2.1); (case side5 => exact far_slice (IsS85.own_ne HI0.out HO434.out zb33)); rintro e w6 ⟨rfl, hi, hb, hk⟩; refine ⟨_, rfl, ?_⟩; replace HO434 := Aside0.mk (Kd.R_mono (Kd.R_keep (IsS85.apart (show IsS85 w0 _ g s0_0 s0_1 s0_2 from zb1) (zR HO434.out) zb33) hk (fun _ h => h.2)) (fun _ h => h.1)); replace HK := Aside0.mk (KeepBut.trans zb4 hk (.inl rfl)); replace HB := Aside0.mk hb; replace HI0 := Aside0.mk hi; (try clear hb); (try clear hb2); (try clear hk); (try clear hi)))
 go_ret
 exact ⟨zb8, zb1, zb3, zb4⟩
set_option maxHeartbeats 8000000 in
set_option maxRecDepth 100000 in
theorem spec_l01Odd.calls (g : Nat) (s0_0 : List Int) (s0_1 : Int) (s0_2 : Int) (r1 : ByteArray) (r2 : Int) (r3 : Int) (w0 w : World) (hI : IsS85 w0 w g s0_0 s0_1 s0_2) (hB : Below w0.heap.size w0 w) (h : spec_l01Odd.f s0_0 s0_1 s0_2 = some (r1, r2, r3)) :
  Calls Tryz.prog 84 #[.pointer (some ⟨g, 0, none⟩)] w fun e w' => e = .returned (.string r1) ∧ IsS85 w0 w' g s0_0 r2 r3 ∧ Below w0.heap.size w0 w' ∧ KeepBut w w' g none := by
 have HI0 := Aside0.mk hI
 have HK := Aside0.mk (KeepBut.refl w g none)
 have HL := Aside0.mk hB.size
 clear hI
 have HW0 := Aside0.mk hB.size
 have HB := Aside0.mk hB
 clear hB
 have H : ((spec_l01Pick.f s0_0 s0_1 s0_2 (([(⟨#[]⟩ : ByteArray), (⟨#[65]⟩ : ByteArray), (⟨#[97, 47, 47, 98]⟩ : ByteArray), (⟨#[47, 97]⟩ : ByteArray), (⟨#[97, 64, 98]⟩ : ByteArray), (⟨#[64]⟩ : ByteArray), (⟨#[64, 97]⟩ : ByteArray), (⟨#[97, 32, 98]⟩ : ByteArray), (⟨#[97, 47, 64, 98]⟩ : ByteArray), (⟨#[46]⟩ : ByteArray), (⟨#[120, 47]⟩ : ByteArray), (⟨#[120, 47, 110, 111, 100, 101, 95, 109, 111, 100, 117, 108, 101, 115, 47, 121]⟩ : ByteArray)] : List ByteArray))).bind fun bt429 => (some (bt429.1, bt429.2.1, bt429.2.2))) = some (r1, r2, r3) := h
 clear h
 obtain ⟨y426, hy426⟩ : ∃ y_ : List ByteArray, y_ = (([(⟨#[]⟩ : ByteArray), (⟨#[65]⟩ : ByteArray), (⟨#[97, 47, 47, 98]⟩ : ByteArray), (⟨#[47, 97]⟩ : ByteArray), (⟨#[97, 64, 98]⟩ : ByteArray), (⟨#[64]⟩ : ByteArray), (⟨#[64, 97]⟩ : ByteArray), (⟨#[97, 32, 98]⟩ : ByteArray), (⟨#[97, 47, 64, 98]⟩ : ByteArray), (⟨#[46]⟩ : ByteArray), (⟨#[120, 47]⟩ : ByteArray), (⟨#[120, 47, 110, 111, 100, 101, 95, 109, 111, 100, 117, 108, 101, 115, 47, 121]⟩ : ByteArray)] : List ByteArray)) := ⟨_, rfl⟩
 first | replace H := hb1 H (show (spec_l01Pick.f s0_0 s0_1 s0_2 y426) = _ from (by rw [hy426])) | replace H := hb1 (hb2 H) (show (spec_l01Pick.f s0_0 s0_1 s0_2 y426) = _ from (by rw [hy426]))
 have Ny426 := Aside0.mk hy426
 clear hy426
 replace H := Option.bind_eq_some_iff.mp H
 obtain ⟨⟨t429, t430, t431⟩, A20, H⟩ := H
 try dsimp only at H
 have A2 := Aside0.mk A20
 clear A20
 simp only [Option.some.injEq, Prod.mk.injEq] at H
 obtain ⟨rfl, rfl, rfl⟩ := H
 go_enter Tryz.func84, Tryz.ntmps84
 go_wp2_with (first | ((with_reducible refine gate_dst (N := 4) rfl ?_); refine Kd.R_lit Kd.string _ 9 ?hg (N := 4) ?hd (xs := ([(⟨#[]⟩ : ByteArray), (⟨#[65]⟩ : ByteArray), (⟨#[97, 47, 47, 98]⟩ : ByteArray), (⟨#[47, 97]⟩ : ByteArray), (⟨#[97, 64, 98]⟩ : ByteArray), (⟨#[64]⟩ : ByteArray), (⟨#[64, 97]⟩ : ByteArray), (⟨#[97, 32, 98]⟩ : ByteArray), (⟨#[97, 47, 64, 98]⟩ : ByteArray), (⟨#[46]⟩ : ByteArray), (⟨#[120, 47]⟩ : ByteArray), (⟨#[120, 47, 110, 111, 100, 101, 95, 109, 111, 100, 117, 108, 101, 115, 47, 121]⟩ : ByteArray)] : List ByteArray)) (inner := [.string (⟨#[]⟩ : ByteArray), .string (⟨#[65]⟩ : ByteArray), .string (⟨#[97, 47, 47, 98]⟩ : ByteArray), .string (⟨#[47, 97]⟩ : ByteArray), .string (⟨#[97, 64, 98]⟩ : ByteArray), .string (⟨#[64]⟩ : ByteArray), .string (⟨#[64, 97]⟩ : ByteArray), .string (⟨#[97, 32, 98]⟩ : ByteArray), .string (⟨#[97, 47, 64, 98]⟩ : ByteArray), .string (⟨#[46]⟩ : ByteArray), .string (⟨#[120, 47]⟩ : ByteArray), .string (⟨#[120, 47, 110, 111, 100, 101, 95, 109, 111, 100, 117, 108, 101, 115, 47, 121]⟩ : ByteArray)]) (ok := fun _ => True) (okp := fun _ => True) ?hr ?hp (fun _ hk => hk) trivial (Below.refl _ _) (Nat.le_refl _) zb26 ?_; (case hd => rfl); (case hg => rfl); (case hr => exact zb15); (case hp => exact zb16); intro v427 w3 ho4 hb hg_ hnew_; clear hg_ hnew_; (first | rw [← Ny426.out] at ho4 | (simp only [Int.reduceToNat] at ho4; rw [← Ny426.out] at ho4)); have HO428 := Aside0.mk (Kd.R_lower ho4 (keep_size (w := w) (g := g) (row := none) zb4)); replace HK := Aside0.mk (KeepBut.trans zb4 (KeepBut.of_below hb g none) (.inl rfl)); replace HB := Aside0.mk (below_step zb3 hb); replace HI0 := Aside0.mk (IsS85.below zb1 hb); clear hb ho4; obtain ⟨Ao5, co5, eo5⟩ := Kd.R_slice HO428.out; subst eo5) | ((with_reducible refine gate_callee (f := 80) rfl ?_); refine goesL_ (some 5) rfl rfl Tryz.func80 zb13 rfl #[.pointer (some ⟨g, 0, none⟩), .slice Ao5 y426.length co5] rfl zb2 ?_; (with_reducible refine (spec_l01Pick.calls g s0_0 s0_1 s0_2 _ _ y426 t429 t430 t431 w0 _ ?side1 ?side2 ?side3 ?side4 ?side5 A2.out).mono ?_); (case side1 => exact zb1); (case side2 => exact zb3); (case side3 => repeat (first | exact (Kd.R_reads' HO428.out).2.2 | (with_reducible refine Kd.C_alloc ?_ _) | (with_reducible refine Kd.C_drewN ?_ _) | (with_reducible refine Kd.C_drew ?_))); (case side4 => exact (Kd.R_reads' HO428.out).2.1); (case side5 => exact far_slice (IsS85.own_ne HI0.out HO428.out zb33)); rintro e w6 ⟨rfl, hi, hb, hk⟩; refine ⟨_, rfl, ?_⟩; replace HO428 := Aside0.mk (Kd.R_mono (Kd.R_keep (IsS85.apart (show IsS85 w0 _ g s0_0 s0_1 s0_2 from zb1) (zR HO428.out) zb33) hk (fun _ h => h.2)) (fun _ h => h.1)); replace HK := Aside0.mk (KeepBut.trans zb4 hk (.inl rfl)); replace HB := Aside0.mk hb; replace HI0 := Aside0.mk hi; (try clear hb); (try clear hb2); (try clear hk); (try clear hi)))
 go_ret
 exact ⟨zb8, zb1, zb3, zb4⟩
set_option maxHeartbeats 8000000 in
set_option maxRecDepth 100000 in
theorem spec_DrawNameOk.calls (k : Nat) (A0 : Option Addr) (c0 : Nat) (l0 : List Int) (r : ByteArray) (w : World) (hr0 : Kd.C (Kd.int .u8) w A0 l0.length l0) (hc0 : l0.length ≤ c0) (h : spec_DrawNameOk.f k l0 = some r) :
  Calls Tryz.prog 37 #[.slice A0 l0.length c0] w fun e w' => e = .returned (.string r) ∧ Below w.heap.size w w' := by
 have HR0 := Aside0.mk hr0
 have HC0 := Aside0.mk hc0
 clear hr0 hc0
 have HB := Aside0.mk (Below.refl w.heap.size w)
 have H : ((spec_l01New.f k l0).bind fun bt438 => ((spec_l01Below.f bt438.1 bt438.2.1 bt438.2.2 4).bind fun bt442 => (if bt442.1 = 0 then ((spec_l01Odd.f bt438.1 bt442.2.1 bt442.2.2).bind fun bt445 => (some bt445.1)) else (if bt442.1 = 1 then (spec_DrawNameOk.l0 k (⟨#[]⟩ : ByteArray) bt438.1 bt442.2.1 bt442.2.2) else ((spec_l01Name.f bt438.1 bt442.2.1 bt442.2.2).bind fun bt451 => ((spec_l01Bent.f bt438.1 bt451.2.1 bt451.2.2 bt451.1).bind fun bt454 => (some bt454.1))))))) = some r := h
 clear h
 replace H := Option.bind_eq_some_iff.mp H
 obtain ⟨⟨t438, t439, t440⟩, A20, H⟩ := H
 try dsimp only at H
 have A2 := Aside0.mk A20
 clear A20
 replace H := Option.bind_eq_some_iff.mp H
 obtain ⟨⟨t442, t443, t444⟩, A30, H⟩ := H
 try dsimp only at H
 have A3 := Aside0.mk A30
 clear A30
 by_cases c4 : t442 = 0
 ·rw [if_pos c4] at H
  have c4b0 : (t442 == 0) = true := beq_iff_eq.mpr c4
  have c4b1 : (t442 != 0) = false := bne_eq_false_iff_eq.mpr c4
  clear c4
  replace H := Option.bind_eq_some_iff.mp H
  obtain ⟨⟨t445, t446, t447⟩, A50, H⟩ := H
  replace H : (some t445) = some r := H
  have A5 := Aside0.mk A50
  clear A50
  obtain rfl := Option.some.inj H
  go_enter Tryz.func37, Tryz.ntmps37
  go_wp2_with (first | ((with_reducible refine gate_callee (f := 54) rfl ?_); refine goesL_ (some 6) rfl rfl Tryz.func54 zb13 rfl #[.slice A0 l0.length c0] rfl zb2 ?_; (with_reducible refine (spec_l01New.calls k _ _ l0 t438 t439 t440 w _ ?side1 ?side2 ?side3 A2.out).mono ?_); (case side1 => exact zb0); (case side2 => exact HR0.out); (case side3 => exact HC0.out); rintro e w6 ⟨g441, rfl, hi, hb, hb2⟩; refine ⟨_, rfl, ?_⟩; replace HB := Aside0.mk hb; have HI441 := Aside0.mk hi; (try clear hb); (try clear hb2); (try clear hk); (try clear hi)) | ((with_reducible refine gate_callee (f := 79) rfl ?_); refine goesL_ (some 8) rfl rfl Tryz.func79 zb13 rfl #[.pointer (some ⟨g441, 0, none⟩), .int .i64 4] rfl zb2 ?_; (with_reducible refine (spec_l01Below.calls g441 t438 t439 t440 4 t442 t443 t444 w _ ?side1 ?side2 A3.out).mono ?_); (case side1 => exact zb12); (case side2 => exact zb9); rintro e w7 ⟨rfl, hi, hb, hk⟩; refine ⟨_, rfl, ?_⟩; replace HB := Aside0.mk hb; replace HI441 := Aside0.mk hi; (try clear hb); (try clear hb2); (try clear hk); (try clear hi)) | ((with_reducible refine gate_callee (f := 84) rfl ?_); refine goesL_ (some 12) rfl rfl Tryz.func84 zb13 rfl #[.pointer (some ⟨g441, 0, none⟩)] rfl zb2 ?_; (with_reducible refine (spec_l01Odd.calls g441 t438 t443 t444 t445 t446 t447 w _ ?side1 ?side2 A5.out).mono ?_); (case side1 => exact zb12); (case side2 => exact zb9); rintro e w8 ⟨rfl, hi, hb, hk⟩; refine ⟨_, rfl, ?_⟩; replace HB := Aside0.mk hb; replace HI441 := Aside0.mk hi; (try clear hb); (try clear hb2); (try clear hk); (try clear hi)))
  go_ret
  exact ⟨zb8, zb9⟩
 ·rw [if_neg c4] at H
  have c4b0 : (t442 == 0) = false := beq_eq_false_iff_ne.mpr c4
  have c4b1 : (t442 != 0) = true := bne_iff_ne.mpr c4
  by_cases c9 : t442 = 1
  ·rw [if_pos c9] at H
   have c9b0 : (t442 == 1) = true := beq_iff_eq.mpr c9
   have c9b1 : (t442 != 1) = false := bne_eq_false_iff_eq.mpr c9
   clear c9
   have H' := Aside0.mk H
   clear H
   go_enter Tryz.func37, Tryz.ntmps37
   go_wp2_with (first | ((with_reducible refine gate_callee (f := 54) rfl ?_); refine goesL_ (some 6) rfl rfl Tryz.func54 zb13 rfl #[.slice A0 l0.length c0] rfl zb2 ?_; (with_reducible refine (spec_l01New.calls k _ _ l0 t438 t439 t440 w _ ?side1 ?side2 ?side3 A2.out).mono ?_); (case side1 => exact zb0); (case side2 => exact HR0.out); (case side3 => exact HC0.out); rintro e w10 ⟨g441, rfl, hi, hb, hb2⟩; refine ⟨_, rfl, ?_⟩; replace HB := Aside0.mk hb; have HI441 := Aside0.mk hi; (try clear hb); (try clear hb2); (try clear hk); (try clear hi)) | ((with_reducible refine gate_callee (f := 79) rfl ?_); refine goesL_ (some 8) rfl rfl Tryz.func79 zb13 rfl #[.pointer (some ⟨g441, 0, none⟩), .int .i64 4] rfl zb2 ?_; (with_reducible refine (spec_l01Below.calls g441 t438 t439 t440 4 t442 t443 t444 w _ ?side1 ?side2 A3.out).mono ?_); (case side1 => exact zb12); (case side2 => exact zb9); rintro e w11 ⟨rfl, hi, hb, hk⟩; refine ⟨_, rfl, ?_⟩; replace HB := Aside0.mk hb; replace HI441 := Aside0.mk hi; (try clear hb); (try clear hb2); (try clear hk); (try clear hi)))
   go_loopg [4] k (fun kq v4 w' => ∃ (x4_1 : ByteArray) (x442001_1 : Int) (x442002_1 : Int), v4 = .string x4_1 ∧ Aside0 (spec_DrawNameOk.l0 kq x4_1 t438 x442001_1 x442002_1 = some r) ∧ Aside0 (kq ≤ k) ∧ Aside0 (IsS85 w w' g441 t438 x442001_1 x442002_1) ∧ Aside0 (Below w.heap.size w w'))
   case atStart => exact ⟨((⟨#[]⟩ : ByteArray)), (t443), (t444), zb7, H', ⟨Nat.le_refl _⟩, ⟨zb12⟩, ⟨zb9⟩⟩
   case round =>
    clear H'
    try clear p2
    try clear c3
    try clear c4
    try clear c4b0
    try clear c4b1
    try clear c5
    try clear c7
    try clear c8
    try clear c9
    try clear c9b0
    try clear c9b1
    obtain ⟨x4_1, x442001_1, x442002_1, rfl, HA, HK1, HI441, HB⟩ := hrel
    cases gk with
    | zero => exact absurd HA.out (by simp [spec_DrawNameOk.l0])
    | succ k1 =>
     have H := HA.out
     clear HA
     simp only [spec_DrawNameOk.l0] at H
     replace H := Option.bind_eq_some_iff.mp H
     obtain ⟨⟨t448, t449, t450⟩, A120, H⟩ := H
     try dsimp only at H
     have A12 := Aside0.mk A120
     clear A120
     by_cases c13 : (x4_1.size : Int) < (wrap64 (60 + t448))
     ·rw [if_pos c13] at H
      have c13b0 : decide ((x4_1.size : Int) < (wrap64 (60 + t448))) = true := decide_eq_true c13
      clear c13
      by_cases c14 : x4_1.size + 1 ≤ 9223372036854775807
      ·rw [if_pos c14] at H
       have c14b0 := eq_true c14
       have c14b1 : decide (x4_1.size + 1 ≤ 9223372036854775807) = true := decide_eq_true c14
       try have c14b2 : (9223372036854775807 < x4_1.size + 1) = False := eq_false (Nat.not_lt.2 c14)
       obtain ⟨js15, hjs15⟩ : ∃ j_ : ByteArray, (x4_1 ++ (⟨#[110]⟩ : ByteArray)) = j_ := ⟨_, rfl⟩
       replace H : (spec_DrawNameOk.l0 k1 js15 t438 t449 t450) = some r := by first | (rw [hjs15] at H; exact H) | (simp only [hjs15] at H ⊢; exact H)
       (try rw [hjs15] at A12)
       have H' := Aside0.mk H
       clear H
       go_wp2_with (first | ((with_reducible refine gate_callee (f := 79) rfl ?_); refine goesL_ (some 18) rfl rfl Tryz.func79 zb13 rfl #[.pointer (some ⟨g441, 0, none⟩), .int .i64 2] rfl zb2 ?_; (with_reducible refine (spec_l01Below.calls g441 t438 x442001_1 x442002_1 2 t448 t449 t450 w _ ?side1 ?side2 A12.out).mono ?_); (case side1 => exact zb12); (case side2 => exact zb9); rintro e w16 ⟨rfl, hi, hb, hk⟩; refine ⟨_, rfl, ?_⟩; replace HB := Aside0.mk hb; replace HI441 := Aside0.mk hi; (try clear hb); (try clear hb2); (try clear hk); (try clear hi)))
       go_roundg k1
       case measure => have := HK1.out; omega
       case rel => exact ⟨(js15), (t449), (t450), (by first | rfl | (simp; done) | (simp only [← hjs15] <;> (first | rfl | simp)) | (simp [*]; done)), H', ⟨by have := HK1.out; omega⟩, ⟨zb12⟩, ⟨zb9⟩⟩
      ·rw [if_neg c14] at H
       exact absurd H zb26
     ·rw [if_neg c13] at H
      have c13b0 : decide ((x4_1.size : Int) < (wrap64 (60 + t448))) = false := decide_eq_false c13
      clear c13
      obtain rfl := Option.some.inj H
      go_wp2_with (first | ((with_reducible refine gate_callee (f := 79) rfl ?_); refine goesL_ (some 18) rfl rfl Tryz.func79 zb13 rfl #[.pointer (some ⟨g441, 0, none⟩), .int .i64 2] rfl zb2 ?_; (with_reducible refine (spec_l01Below.calls g441 t438 x442001_1 x442002_1 2 t448 t449 t450 w _ ?side1 ?side2 A12.out).mono ?_); (case side1 => exact zb12); (case side2 => exact zb9); rintro e w17 ⟨rfl, hi, hb, hk⟩; refine ⟨_, rfl, ?_⟩; replace HB := Aside0.mk hb; replace HI441 := Aside0.mk hi; (try clear hb); (try clear hb2); (try clear hk); (try clear hi)))
      go_ret
      exact ⟨zb8, zb9⟩
  ·rw [if_neg c9] at H
   have c9b0 : (t442 == 1) = false := beq_eq_false_iff_ne.mpr c9
   have c9b1 : (t442 != 1) = true := bne_iff_ne.mpr c9
   replace H := Option.bind_eq_some_iff.mp H
   obtain ⟨⟨t451, t452, t453⟩, A180, H⟩ := H
   try dsimp only at H
   have A18 := Aside0.mk A180
   clear A180
   replace H := Option.bind_eq_some_iff.mp H
   obtain ⟨⟨t454, t455, t456⟩, A190, H⟩ := H
   replace H : (some t454) = some r := H
   have A19 := Aside0.mk A190
   clear A190
   obtain rfl := Option.some.inj H
   go_enter Tryz.func37, Tryz.ntmps37
   go_wp2_with (first | ((with_reducible refine gate_callee (f := 54) rfl ?_); refine goesL_ (some 6) rfl rfl Tryz.func54 zb13 rfl #[.slice A0 l0.length c0] rfl zb2 ?_; (with_reducible refine (spec_l01New.calls k _ _ l0 t438 t439 t440 w _ ?side1 ?side2 ?side3 A2.out).mono ?_); (case side1 => exact zb0); (case side2 => exact HR0.out); (case side3 => exact HC0.out); rintro e w20 ⟨g441, rfl, hi, hb, hb2⟩; refine ⟨_, rfl, ?_⟩; replace HB := Aside0.mk hb; have HI441 := Aside0.mk hi; (try clear hb); (try clear hb2); (try clear hk); (try clear hi)) | ((with_reducible refine gate_callee (f := 79) rfl ?_); refine goesL_ (some 8) rfl rfl Tryz.func79 zb13 rfl #[.pointer (some ⟨g441, 0, none⟩), .int .i64 4] rfl zb2 ?_; (with_reducible refine (spec_l01Below.calls g441 t438 t439 t440 4 t442 t443 t444 w _ ?side1 ?side2 A3.out).mono ?_); (case side1 => exact zb12); (case side2 => exact zb9); rintro e w21 ⟨rfl, hi, hb, hk⟩; refine ⟨_, rfl, ?_⟩; replace HB := Aside0.mk hb; replace HI441 := Aside0.mk hi; (try clear hb); (try clear hb2); (try clear hk); (try clear hi)) | ((with_reducible refine gate_callee (f := 85) rfl ?_); refine goesL_ (some 26) rfl rfl Tryz.func85 zb13 rfl #[.pointer (some ⟨g441, 0, none⟩)] rfl zb2 ?_; (with_reducible refine (spec_l01Name.calls g441 t438 t443 t444 t451 t452 t453 w _ ?side1 ?side2 A18.out).mono ?_); (case side1 => exact zb12); (case side2 => exact zb9); rintro e w22 ⟨rfl, hi, hb, hk⟩; refine ⟨_, rfl, ?_⟩; replace HB := Aside0.mk hb; replace HI441 := Aside0.mk hi; (try clear hb); (try clear hb2); (try clear hk); (try clear hi)) | ((with_reducible refine gate_callee (f := 56) rfl ?_); refine goesL_ (some 27) rfl rfl Tryz.func56 zb13 rfl #[.pointer (some ⟨g441, 0, none⟩), .string t451] rfl zb2 ?_; (with_reducible refine (spec_l01Bent.calls g441 t438 t452 t453 t451 t454 t455 t456 w _ ?side1 ?side2 A19.out).mono ?_); (case side1 => exact zb12); (case side2 => exact zb9); rintro e w23 ⟨rfl, hi, hb, hk⟩; refine ⟨_, rfl, ?_⟩; replace HB := Aside0.mk hb; replace HI441 := Aside0.mk hi; (try clear hb); (try clear hb2); (try clear hk); (try clear hi)))
   go_ret
   exact ⟨zb8, zb9⟩
set_option maxHeartbeats 8000000 in
set_option maxRecDepth 100000 in
theorem spec_DrawPlainOk.calls (k : Nat) (A0 : Option Addr) (c0 : Nat) (l0 : List Int) (r : ByteArray) (w : World) (hr0 : Kd.C (Kd.int .u8) w A0 l0.length l0) (hc0 : l0.length ≤ c0) (h : spec_DrawPlainOk.f k l0 = some r) :
  Calls Tryz.prog 38 #[.slice A0 l0.length c0] w fun e w' => e = .returned (.string r) ∧ Below w.heap.size w w' := by
 have HR0 := Aside0.mk hr0
 have HC0 := Aside0.mk hc0
 clear hr0 hc0
 have HB := Aside0.mk (Below.refl w.heap.size w)
 have H : ((spec_l01New.f k l0).bind fun bt457 => ((spec_l01Once.f bt457.1 bt457.2.1 bt457.2.2 3).bind fun bt461 => (if bt461.1 = true then (spec_DrawPlainOk.l0 k (⟨#[]⟩ : ByteArray) bt457.1 bt461.2.1 bt461.2.2) else ((spec_l01Pick.f bt457.1 bt461.2.1 bt461.2.2 (([(⟨#[]⟩ : ByteArray), (⟨#[104, 116, 116, 112, 115, 58, 47, 47, 120, 46, 111, 114, 103, 47, 97, 45, 49, 46, 116, 103, 122]⟩ : ByteArray), (⟨#[97, 44, 98]⟩ : ByteArray), (⟨#[97, 32, 98]⟩ : ByteArray), (⟨#[39]⟩ : ByteArray), (⟨#[34]⟩ : ByteArray), (⟨#[92]⟩ : ByteArray), (⟨#[126]⟩ : ByteArray), (⟨#[127]⟩ : ByteArray)] : List ByteArray))).bind fun bt470 => (some bt470.1))))) = some r := h
 clear h
 replace H := Option.bind_eq_some_iff.mp H
 obtain ⟨⟨t457, t458, t459⟩, A20, H⟩ := H
 try dsimp only at H
 have A2 := Aside0.mk A20
 clear A20
 replace H := Option.bind_eq_some_iff.mp H
 obtain ⟨⟨t461, t462, t463⟩, A30, H⟩ := H
 try dsimp only at H
 have A3 := Aside0.mk A30
 clear A30
 by_cases c4 : t461 = true
 ·subst c4
  rw [if_pos rfl] at H
  have H' := Aside0.mk H
  clear H
  go_enter Tryz.func38, Tryz.ntmps38
  go_wp2_with (first | ((with_reducible refine gate_callee (f := 54) rfl ?_); refine goesL_ (some 6) rfl rfl Tryz.func54 zb13 rfl #[.slice A0 l0.length c0] rfl zb2 ?_; (with_reducible refine (spec_l01New.calls k _ _ l0 t457 t458 t459 w _ ?side1 ?side2 ?side3 A2.out).mono ?_); (case side1 => exact zb0); (case side2 => exact HR0.out); (case side3 => exact HC0.out); rintro e w5 ⟨g460, rfl, hi, hb, hb2⟩; refine ⟨_, rfl, ?_⟩; replace HB := Aside0.mk hb; have HI460 := Aside0.mk hi; (try clear hb); (try clear hb2); (try clear hk); (try clear hi)) | ((with_reducible refine gate_callee (f := 81) rfl ?_); refine goesL_ (some 8) rfl rfl Tryz.func81 zb13 rfl #[.pointer (some ⟨g460, 0, none⟩), .int .i64 3] rfl zb2 ?_; (with_reducible refine (spec_l01Once.calls g460 t457 t458 t459 3 true t462 t463 w _ ?side1 ?side2 A3.out).mono ?_); (case side1 => exact zb14); (case side2 => exact zb11); rintro e w6 ⟨rfl, hi, hb, hk⟩; refine ⟨_, rfl, ?_⟩; replace HB := Aside0.mk hb; replace HI460 := Aside0.mk hi; (try clear hb); (try clear hb2); (try clear hk); (try clear hi)))
  go_loopg [4] k (fun kq v4 w' => ∃ (x4_1 : ByteArray) (x461001_1 : Int) (x461002_1 : Int), v4 = .string x4_1 ∧ Aside0 (spec_DrawPlainOk.l0 kq x4_1 t457 x461001_1 x461002_1 = some r) ∧ Aside0 (kq ≤ k) ∧ Aside0 (IsS85 w w' g460 t457 x461001_1 x461002_1) ∧ Aside0 (Below w.heap.size w w'))
  case atStart => exact ⟨((⟨#[]⟩ : ByteArray)), (t462), (t463), zb7, H', ⟨Nat.le_refl _⟩, ⟨zb14⟩, ⟨zb11⟩⟩
  case round =>
   clear H'
   try clear p2
   try clear c3
   try clear c4
   try clear c5
   obtain ⟨x4_1, x461001_1, x461002_1, rfl, HA, HK1, HI460, HB⟩ := hrel
   cases gk with
   | zero => exact absurd HA.out (by simp [spec_DrawPlainOk.l0])
   | succ k1 =>
    have H := HA.out
    clear HA
    simp only [spec_DrawPlainOk.l0] at H
    replace H := Option.bind_eq_some_iff.mp H
    obtain ⟨⟨t464, t465, t466⟩, A70, H⟩ := H
    try dsimp only at H
    have A7 := Aside0.mk A70
    clear A70
    by_cases c8 : (x4_1.size : Int) < (wrap64 (100 + t464))
    ·rw [if_pos c8] at H
     have c8b0 : decide ((x4_1.size : Int) < (wrap64 (100 + t464))) = true := decide_eq_true c8
     clear c8
     by_cases c9 : x4_1.size + 1 ≤ 9223372036854775807
     ·rw [if_pos c9] at H
      have c9b0 := eq_true c9
      have c9b1 : decide (x4_1.size + 1 ≤ 9223372036854775807) = true := decide_eq_true c9
      try have c9b2 : (9223372036854775807 < x4_1.size + 1) = False := eq_false (Nat.not_lt.2 c9)
      obtain ⟨js10, hjs10⟩ : ∃ j_ : ByteArray, (x4_1 ++ (⟨#[110]⟩ : ByteArray)) = j_ := ⟨_, rfl⟩
      replace H : (spec_DrawPlainOk.l0 k1 js10 t457 t465 t466) = some r := by first | (rw [hjs10] at H; exact H) | (simp only [hjs10] at H ⊢; exact H)
      (try rw [hjs10] at A7)
      have H' := Aside0.mk H
      clear H
      go_wp2_with (first | ((with_reducible refine gate_callee (f := 79) rfl ?_); refine goesL_ (some 12) rfl rfl Tryz.func79 zb13 rfl #[.pointer (some ⟨g460, 0, none⟩), .int .i64 2] rfl zb2 ?_; (with_reducible refine (spec_l01Below.calls g460 t457 x461001_1 x461002_1 2 t464 t465 t466 w _ ?side1 ?side2 A7.out).mono ?_); (case side1 => exact zb14); (case side2 => exact zb11); rintro e w11 ⟨rfl, hi, hb, hk⟩; refine ⟨_, rfl, ?_⟩; replace HB := Aside0.mk hb; replace HI460 := Aside0.mk hi; (try clear hb); (try clear hb2); (try clear hk); (try clear hi)))
      go_roundg k1
      case measure => have := HK1.out; omega
      case rel => exact ⟨(js10), (t465), (t466), (by first | rfl | (simp; done) | (simp only [← hjs10] <;> (first | rfl | simp)) | (simp [*]; done)), H', ⟨by have := HK1.out; omega⟩, ⟨zb14⟩, ⟨zb11⟩⟩
     ·rw [if_neg c9] at H
      exact absurd H zb26
    ·rw [if_neg c8] at H
     have c8b0 : decide ((x4_1.size : Int) < (wrap64 (100 + t464))) = false := decide_eq_false c8
     clear c8
     obtain rfl := Option.some.inj H
     go_wp2_with (first | ((with_reducible refine gate_callee (f := 79) rfl ?_); refine goesL_ (some 12) rfl rfl Tryz.func79 zb13 rfl #[.pointer (some ⟨g460, 0, none⟩), .int .i64 2] rfl zb2 ?_; (with_reducible refine (spec_l01Below.calls g460 t457 x461001_1 x461002_1 2 t464 t465 t466 w _ ?side1 ?side2 A7.out).mono ?_); (case side1 => exact zb14); (case side2 => exact zb11); rintro e w12 ⟨rfl, hi, hb, hk⟩; refine ⟨_, rfl, ?_⟩; replace HB := Aside0.mk hb; replace HI460 := Aside0.mk hi; (try clear hb); (try clear hb2); (try clear hk); (try clear hi)))
     go_ret
     exact ⟨zb8, zb11⟩
 ·replace c4 := Bool.eq_false_iff.mpr c4
  subst c4
  rw [if_neg (show ¬ (false = true) by decide)] at H
  obtain ⟨y467, hy467⟩ : ∃ y_ : List ByteArray, y_ = (([(⟨#[]⟩ : ByteArray), (⟨#[104, 116, 116, 112, 115, 58, 47, 47, 120, 46, 111, 114, 103, 47, 97, 45, 49, 46, 116, 103, 122]⟩ : ByteArray), (⟨#[97, 44, 98]⟩ : ByteArray), (⟨#[97, 32, 98]⟩ : ByteArray), (⟨#[39]⟩ : ByteArray), (⟨#[34]⟩ : ByteArray), (⟨#[92]⟩ : ByteArray), (⟨#[126]⟩ : ByteArray), (⟨#[127]⟩ : ByteArray)] : List ByteArray)) := ⟨_, rfl⟩
  first | replace H := hb1 H (show (spec_l01Pick.f t457 t462 t463 y467) = _ from (by rw [hy467])) | replace H := hb1 (hb2 H) (show (spec_l01Pick.f t457 t462 t463 y467) = _ from (by rw [hy467]))
  have Ny467 := Aside0.mk hy467
  clear hy467
  replace H := Option.bind_eq_some_iff.mp H
  obtain ⟨⟨t470, t471, t472⟩, A130, H⟩ := H
  replace H : (some t470) = some r := H
  have A13 := Aside0.mk A130
  clear A130
  obtain rfl := Option.some.inj H
  go_enter Tryz.func38, Tryz.ntmps38
  go_wp2_with (first | ((with_reducible refine gate_callee (f := 54) rfl ?_); refine goesL_ (some 6) rfl rfl Tryz.func54 zb13 rfl #[.slice A0 l0.length c0] rfl zb2 ?_; (with_reducible refine (spec_l01New.calls k _ _ l0 t457 t458 t459 w _ ?side1 ?side2 ?side3 A2.out).mono ?_); (case side1 => exact zb0); (case side2 => exact HR0.out); (case side3 => exact HC0.out); rintro e w14 ⟨g460, rfl, hi, hb, hb2⟩; refine ⟨_, rfl, ?_⟩; replace HB := Aside0.mk hb; have HI460 := Aside0.mk hi; (try clear hb); (try clear hb2); (try clear hk); (try clear hi)) | ((with_reducible refine gate_callee (f := 81) rfl ?_); refine goesL_ (some 8) rfl rfl Tryz.func81 zb13 rfl #[.pointer (some ⟨g460, 0, none⟩), .int .i64 3] rfl zb2 ?_; (with_reducible refine (spec_l01Once.calls g460 t457 t458 t459 3 false t462 t463 w _ ?side1 ?side2 A3.out).mono ?_); (case side1 => exact zb14); (case side2 => exact zb11); rintro e w15 ⟨rfl, hi, hb, hk⟩; refine ⟨_, rfl, ?_⟩; replace HB := Aside0.mk hb; replace HI460 := Aside0.mk hi; (try clear hb); (try clear hb2); (try clear hk); (try clear hi)) | ((with_reducible refine gate_dst (N := 19) rfl ?_); refine Kd.R_lit Kd.string _ 9 ?hg (N := 19) ?hd (xs := ([(⟨#[]⟩ : ByteArray), (⟨#[104, 116, 116, 112, 115, 58, 47, 47, 120, 46, 111, 114, 103, 47, 97, 45, 49, 46, 116, 103, 122]⟩ : ByteArray), (⟨#[97, 44, 98]⟩ : ByteArray), (⟨#[97, 32, 98]⟩ : ByteArray), (⟨#[39]⟩ : ByteArray), (⟨#[34]⟩ : ByteArray), (⟨#[92]⟩ : ByteArray), (⟨#[126]⟩ : ByteArray), (⟨#[127]⟩ : ByteArray)] : List ByteArray)) (inner := [.string (⟨#[]⟩ : ByteArray), .string (⟨#[104, 116, 116, 112, 115, 58, 47, 47, 120, 46, 111, 114, 103, 47, 97, 45, 49, 46, 116, 103, 122]⟩ : ByteArray), .string (⟨#[97, 44, 98]⟩ : ByteArray), .string (⟨#[97, 32, 98]⟩ : ByteArray), .string (⟨#[39]⟩ : ByteArray), .string (⟨#[34]⟩ : ByteArray), .string (⟨#[92]⟩ : ByteArray), .string (⟨#[126]⟩ : ByteArray), .string (⟨#[127]⟩ : ByteArray)]) (ok := fun _ => True) (okp := fun _ => True) ?hr ?hp (fun _ hk => hk) trivial (Below.refl _ _) (Nat.le_refl _) zb26 ?_; (case hd => rfl); (case hg => rfl); (case hr => exact zb15); (case hp => exact zb16); intro v468 w16 ho17 hb hg_ hnew_; clear hg_ hnew_; (first | rw [← Ny467.out] at ho17 | (simp only [Int.reduceToNat] at ho17; rw [← Ny467.out] at ho17)); have HO469 := Aside0.mk (Kd.R_lower ho17 (below_size zb11)); replace HB := Aside0.mk (below_step zb11 hb); replace HI460 := Aside0.mk (IsS85.below zb14 hb); clear hb ho17; obtain ⟨Ao18, co18, eo18⟩ := Kd.R_slice HO469.out; subst eo18) | ((with_reducible refine gate_callee (f := 80) rfl ?_); refine goesL_ (some 20) rfl rfl Tryz.func80 zb13 rfl #[.pointer (some ⟨g460, 0, none⟩), .slice Ao18 y467.length co18] rfl zb2 ?_; (with_reducible refine (spec_l01Pick.calls g460 t457 t462 t463 _ _ y467 t470 t471 t472 w _ ?side1 ?side2 ?side3 ?side4 ?side5 A13.out).mono ?_); (case side1 => exact zb14); (case side2 => exact zb11); (case side3 => repeat (first | exact (Kd.R_reads' HO469.out).2.2 | (with_reducible refine Kd.C_alloc ?_ _) | (with_reducible refine Kd.C_drewN ?_ _) | (with_reducible refine Kd.C_drew ?_))); (case side4 => exact (Kd.R_reads' HO469.out).2.1); (case side5 => exact far_slice (IsS85.own_ne HI460.out HO469.out zb33)); rintro e w19 ⟨rfl, hi, hb, hk⟩; refine ⟨_, rfl, ?_⟩; replace HO469 := Aside0.mk (Kd.R_mono (Kd.R_keep (IsS85.apart (show IsS85 w _ g460 t457 t462 t463 from zb14) (zR HO469.out) zb33) hk (fun _ h => h.2)) (fun _ h => h.1)); replace HB := Aside0.mk hb; replace HI460 := Aside0.mk hi; (try clear hb); (try clear hb2); (try clear hk); (try clear hi)))
  go_ret
  exact ⟨zb8, zb11⟩
set_option maxHeartbeats 8000000 in
set_option maxRecDepth 100000 in
theorem spec_l01Cut.calls (k : Nat) (a0 : ByteArray) (a1 : Int) (r : List ByteArray) (w : World) (h : spec_l01Cut.f k a0 a1 = some r) :
  Calls Tryz.prog 87 #[.string a0, .int .u8 a1] w fun e w' => ∃ v0_ : Value, e = .returned (v0_) ∧ Kd.R Kd.string 9 w' w.heap.size (fun _ => True) v0_ r ∧ Below w.heap.size w w' := by
 have HB := Aside0.mk (Below.refl w.heap.size w)
 have H : (spec_l01Cut.l0 k a0 a1 (([] : List ByteArray)) 0 0) = some r := h
 clear h
 obtain ⟨y475, hy475⟩ : ∃ y_ : List ByteArray, y_ = (([] : List ByteArray)) := ⟨_, rfl⟩
 replace H : (spec_l01Cut.l0 k a0 a1 y475 0 0) = some r := by first | (rw [hy475]; with_reducible exact H) | (have H2_ := (Option.bind_some _ _).symm.trans H; rw [hy475]; with_reducible exact H2_) | (have H2_ := (Option.bind_some _ _).symm.trans H; with_reducible exact H2_) | with_reducible exact H | (rw [hy475]; exact H) | exact H
 have Ny475 := Aside0.mk hy475
 clear hy475
 have H' := Aside0.mk H
 clear H
 go_enter Tryz.func87, Tryz.ntmps87
 go_wp2_with (first | ((with_reducible refine gate_dst (N := 8) rfl ?_); refine Kd.R_lit Kd.string _ 9 ?hg (N := 8) ?hd (xs := ([] : List ByteArray)) (inner := []) (ok := fun _ => True) (okp := fun _ => True) ?hr ?hp (fun _ hk => hk) trivial (Below.refl _ _) (Nat.le_refl _) zb26 ?_; (case hd => rfl); (case hg => rfl); (case hr => exact zb15); (case hp => exact (Reps.none _ _)); intro v476 w3 ho4 hb hg_ hnew_; clear hg_ hnew_; (first | rw [← Ny475.out] at ho4 | (simp only [Int.reduceToNat] at ho4; rw [← Ny475.out] at ho4)); have HO477 := Aside0.mk (Kd.R_lower ho4 (below_size zb0)); replace HB := Aside0.mk (below_step zb0 hb); clear hb ho4))
 go_loopg [5, 6, 7] k (fun kq v5 v6 v7 w' => ∃ (x5_1 : List ByteArray) (x6_1 : Int) (x7_1 : Int), v6 = .int .i64 x6_1 ∧ v7 = .int .i64 x7_1 ∧ Aside0 (spec_l01Cut.l0 kq a0 a1 x5_1 x6_1 x7_1 = some r) ∧ Aside0 (kq ≤ k) ∧ Aside0 (Kd.R Kd.string 9 w' w.heap.size (fun _ => True) v5 x5_1) ∧ Aside0 (Below w.heap.size w w'))
 case atStart => exact ⟨(y475), (0), (0), zb7, zb7, H', ⟨Nat.le_refl _⟩, ⟨(zR HO477.out)⟩, ⟨zb0⟩⟩
 case round =>
  clear H'
  try clear p2
  obtain ⟨x5_1, x6_1, x7_1, rfl, rfl, HA, HK1, HO_5, HB⟩ := hrel
  cases gk with
  | zero => exact absurd HA.out (by simp [spec_l01Cut.l0])
  | succ k1 =>
   have H := HA.out
   clear HA
   simp only [spec_l01Cut.l0] at H
   by_cases c5 : x7_1 < (a0.size : Int)
   ·rw [if_pos c5] at H
    have c5b0 : decide (x7_1 < (a0.size : Int)) = true := decide_eq_true c5
    clear c5
    by_cases c6 : 0 ≤ x7_1
    ·rw [if_pos c6] at H
     have c6b0 : decide (0 ≤ x7_1) = true := decide_eq_true c6
     clear c6
     by_cases c8 : (bt a0 x7_1) = a1
     ·rw [if_pos c8] at H
      have c8b0 : ((bt a0 x7_1) == a1) = true := beq_iff_eq.mpr c8
      have c8b1 : ((bt a0 x7_1) != a1) = false := bne_eq_false_iff_eq.mpr c8
      clear c8
      by_cases c9 : 0 ≤ x6_1
      ·rw [if_pos c9] at H
       have c9b0 := eq_true c9
       have c9b1 : decide (0 ≤ x6_1) = true := decide_eq_true c9
       clear c9
       by_cases c10 : x6_1 ≤ x7_1
       ·rw [if_pos c10] at H
        have c10b0 := eq_true c10
        have c10b1 : decide (x6_1 ≤ x7_1) = true := decide_eq_true c10
        clear c10
        by_cases c11 : x7_1 ≤ (a0.size : Int)
        ·rw [if_pos c11] at H
         have c11b0 := eq_true c11
         have c11b1 : decide (x7_1 ≤ (a0.size : Int)) = true := decide_eq_true c11
         clear c11
         obtain ⟨js12, hjs12⟩ : ∃ j_ : ByteArray, (a0.extract (x6_1 : Int).toNat (x7_1 : Int).toNat) = j_ := ⟨_, rfl⟩
         replace H : (if x5_1.length < 8796093022208 then (spec_l01Cut.l0 k1 a0 a1 (x5_1 ++ [js12]) (wrap64 (x7_1 + 1)) (wrap64 (x7_1 + 1))) else (none)) = some r := by first | (rw [hjs12] at H; exact H) | (simp only [hjs12] at H ⊢; exact H)
         by_cases c13 : x5_1.length < 8796093022208
         ·rw [if_pos c13] at H
          have LMc13 := Aside0.mk c13
          clear c13
          obtain ⟨y478, hy478⟩ : ∃ y_ : List ByteArray, y_ = (x5_1 ++ [js12]) := ⟨_, rfl⟩
          replace H : (spec_l01Cut.l0 k1 a0 a1 y478 (wrap64 (x7_1 + 1)) (wrap64 (x7_1 + 1))) = some r := by first | (rw [hy478]; with_reducible exact H) | (have H2_ := (Option.bind_some _ _).symm.trans H; rw [hy478]; with_reducible exact H2_) | (have H2_ := (Option.bind_some _ _).symm.trans H; with_reducible exact H2_) | with_reducible exact H | (rw [hy478]; exact H) | exact H
          have Ny478 := Aside0.mk hy478
          clear hy478
          have H' := Aside0.mk H
          clear H
          have p7 : 0 ≤ (x7_1 : Int) := of_decide_eq_true zb5
          have q7 : x7_1 < (a0.size : Int) := of_decide_eq_true zb5
          have hx7 := bt_at a0 x7_1
          replace p7 := eq_true p7
          replace q7 := eq_true q7
          go_wp2_with (first | ((with_reducible refine gate_builtin (b := .append) (xs := #[.tmp 20, .tmp 25]) rfl ?_); at_builtin; refine Kd.R_append Kd.string (w0 := w) w.heap.size rfl (.tmp 20) (.tmp 25) 40 9 (.string ⟨#[]⟩) 16 rfl Tryz.underlying40 info9 rfl zb33 zb40 u5 x5_1 js12 [.string js12] (fun _ => True) (fun _ => False) rfl rfl ?aP (fun _ hk => hk.elim) ?aF ?aO ?aB ?aS ?aL ?_; (case aP => exact rfl); (case aB => exact zb0); (case aF => exact (fun _ _ => trivial)); (case aO => exact (zR HO_5.out)); (case aS => exact (below_size zb0)); (case aL => have := LMc13.out; omega); intro v479 w14 ho hb hg hat; rw [← Ny478.out] at ho; replace HB := Aside0.mk hb; have HO480 := Aside0.mk ho; clear HO_5 ho hb hg hat))
          go_roundg k1
          case measure => have := HK1.out; omega
          case rel => exact ⟨(y478), (wrap64 (x7_1 + 1)), (wrap64 (x7_1 + 1)), zb7, zb7, H', ⟨by have := HK1.out; omega⟩, ⟨(zR HO480.out)⟩, ⟨zb0⟩⟩
         ·rw [if_neg c13] at H
          exact absurd H zb26
        ·rw [if_neg c11] at H
         exact absurd H zb26
       ·rw [if_neg c10] at H
        exact absurd H zb26
      ·rw [if_neg c9] at H
       exact absurd H zb26
     ·rw [if_neg c8] at H
      have c8b0 : ((bt a0 x7_1) == a1) = false := beq_eq_false_iff_ne.mpr c8
      have c8b1 : ((bt a0 x7_1) != a1) = true := bne_iff_ne.mpr c8
      have H' := Aside0.mk H
      clear H
      have p7 : 0 ≤ (x7_1 : Int) := of_decide_eq_true zb5
      have q7 : x7_1 < (a0.size : Int) := of_decide_eq_true zb5
      have hx7 := bt_at a0 x7_1
      replace p7 := eq_true p7
      replace q7 := eq_true q7
      go_wp2
      go_roundg k1
      case measure => have := HK1.out; omega
      case rel => exact ⟨(x5_1), (x6_1), (wrap64 (x7_1 + 1)), zb7, zb7, H', ⟨by have := HK1.out; omega⟩, ⟨(zR HO_5.out)⟩, ⟨zb0⟩⟩
    ·rw [if_neg c6] at H
     exact absurd H zb26
   ·rw [if_neg c5] at H
    have c5b0 : decide (x7_1 < (a0.size : Int)) = false := decide_eq_false c5
    clear c5
    by_cases c15 : 0 ≤ x6_1
    ·rw [if_pos c15] at H
     have c15b0 := eq_true c15
     have c15b1 : decide (0 ≤ x6_1) = true := decide_eq_true c15
     clear c15
     by_cases c16 : x6_1 ≤ (a0.size : Int)
     ·rw [if_pos c16] at H
      have c16b0 := eq_true c16
      have c16b1 : decide (x6_1 ≤ (a0.size : Int)) = true := decide_eq_true c16
      clear c16
      obtain ⟨js17, hjs17⟩ : ∃ j_ : ByteArray, (a0.extract (x6_1 : Int).toNat a0.size) = j_ := ⟨_, rfl⟩
      replace H : (if x5_1.length < 8796093022208 then (some (x5_1 ++ [js17])) else (none)) = some r := by first | (rw [hjs17] at H; exact H) | (simp only [hjs17] at H ⊢; exact H)
      by_cases c18 : x5_1.length < 8796093022208
      ·rw [if_pos c18] at H
       have LMc18 := Aside0.mk c18
       clear c18
       obtain ⟨y481, hy481⟩ : ∃ y_ : List ByteArray, y_ = (x5_1 ++ [js17]) := ⟨_, rfl⟩
       replace H : (some y481) = some r := by first | (rw [hy481]; with_reducible exact H) | (have H2_ := (Option.bind_some _ _).symm.trans H; rw [hy481]; with_reducible exact H2_) | (have H2_ := (Option.bind_some _ _).symm.trans H; with_reducible exact H2_) | with_reducible exact H | (rw [hy481]; exact H) | exact H
       have Ny481 := Aside0.mk hy481
       clear hy481
       obtain rfl := Option.some.inj H
       go_wp2_with (first | ((with_reducible refine gate_builtin (b := .append) (xs := #[.tmp 29, .tmp 33]) rfl ?_); at_builtin; refine Kd.R_append Kd.string (w0 := w) w.heap.size rfl (.tmp 29) (.tmp 33) 40 9 (.string ⟨#[]⟩) 16 rfl Tryz.underlying40 info9 rfl zb33 zb40 u5 x5_1 js17 [.string js17] (fun _ => True) (fun _ => False) rfl rfl ?aP (fun _ hk => hk.elim) ?aF ?aO ?aB ?aS ?aL ?_; (case aP => exact rfl); (case aB => exact zb0); (case aF => exact (fun _ _ => trivial)); (case aO => exact (zR HO_5.out)); (case aS => exact (below_size zb0)); (case aL => have := LMc18.out; omega); intro v482 w19 ho hb hg hat; rw [← Ny481.out] at ho; replace HB := Aside0.mk hb; have HO483 := Aside0.mk ho; clear HO_5 ho hb hg hat))
       go_ret
       exact ⟨_, (by first | rfl | (simp [errW_none, errW_some] <;> rfl) | (simp only [← hjs17]; first | rfl | (simp [errW_none, errW_some] <;> rfl)) | (simp [*, errW_none, errW_some] <;> rfl)), (zR HO483.out), zb0⟩
      ·rw [if_neg c18] at H
       exact absurd H zb26
     ·rw [if_neg c16] at H
      exact absurd H zb26
    ·rw [if_neg c15] at H
     exact absurd H zb26
set_option maxHeartbeats 8000000 in
set_option maxRecDepth 100000 in
theorem spec_Lines.calls (k : Nat) (a0 : ByteArray) (r : List ByteArray) (w : World) (h : spec_Lines.f k a0 = some r) :
  Calls Tryz.prog 41 #[.string a0] w fun e w' => ∃ v0_ : Value, e = .returned (v0_) ∧ Kd.R Kd.string 9 w' w.heap.size (fun _ => True) v0_ r ∧ Below w.heap.size w w' := by
 have HB := Aside0.mk (Below.refl w.heap.size w)
 have H : ((spec_l01Cut.f k a0 10).bind fun t484 => (if 0 ≤ (wrap64 ((t484.length : Int) - 1)) then (if (wrap64 ((t484.length : Int) - 1)) < (t484.length : Int) then (if (rdOf ByteArray.empty t484 (wrap64 ((t484.length : Int) - 1))).toList = ([] : List UInt8) then (if (wrap64 ((t484.length : Int) - 1)) ≤ (t484.length : Int) then (some (t484.take ((wrap64 ((t484.length : Int) - 1)) : Int).toNat)) else (none)) else (some t484)) else (none)) else (none))) = some r := h
 clear h
 replace H := Option.bind_eq_some_iff.mp H
 obtain ⟨t484, A20, H⟩ := H
 try dsimp only at H
 have A2 := Aside0.mk A20
 clear A20
 obtain ⟨ji3, hji3⟩ : ∃ j_ : Int, (wrap64 ((t484.length : Int) - 1)) = j_ := ⟨_, rfl⟩
 replace H : (if 0 ≤ (ji3) then (if (ji3) < (t484.length : Int) then (if (rdOf ByteArray.empty t484 (ji3)).toList = ([] : List UInt8) then (if (ji3) ≤ (t484.length : Int) then (some (t484.take ((ji3) : Int).toNat)) else (none)) else (some t484)) else (none)) else (none)) = some r := by first | (rw [hji3] at H; exact H) | (simp only [hji3] at H ⊢; exact H)
 (try rw [hji3] at A2)
 have hji3w : (IntKind.i64.wrap ((t484.length : Int) - 1)) = ji3 := (i64_w _).trans hji3
 by_cases c4 : 0 ≤ (ji3)
 ·rw [if_pos c4] at H
  have c4b0 : decide (0 ≤ (ji3)) = true := decide_eq_true c4
  clear c4
  by_cases c5 : (ji3) < (t484.length : Int)
  ·rw [if_pos c5] at H
   have c5b0 : decide ((ji3) < (t484.length : Int)) = true := decide_eq_true c5
   clear c5
   by_cases c6 : (rdOf ByteArray.empty t484 (ji3)).toList = ([] : List UInt8)
   ·rw [if_pos c6] at H
    have c6b0 : ((rdOf ByteArray.empty t484 (ji3)).toList == ([] : List UInt8)) = true := beq_iff_eq.mpr c6
    have c6b1 : ((rdOf ByteArray.empty t484 (ji3)).toList != ([] : List UInt8)) = false := bne_eq_false_iff_eq.mpr c6
    clear c6
    by_cases c7 : (ji3) ≤ (t484.length : Int)
    ·rw [if_pos c7] at H
     have c7b0 := eq_true c7
     have c7b1 : decide ((ji3) ≤ (t484.length : Int)) = true := decide_eq_true c7
     clear c7
     obtain ⟨y488, hy488⟩ : ∃ y_ : List ByteArray, y_ = (t484.take ((ji3) : Int).toNat) := ⟨_, rfl⟩
     replace H : (some y488) = some r := by first | (rw [hy488]; with_reducible exact H) | (have H2_ := (Option.bind_some _ _).symm.trans H; rw [hy488]; with_reducible exact H2_) | (have H2_ := (Option.bind_some _ _).symm.trans H; with_reducible exact H2_) | with_reducible exact H | (rw [hy488]; exact H) | exact H
     have Ny488 := Aside0.mk hy488
     clear hy488
     obtain rfl := Option.some.inj H
     go_enter Tryz.func41, Tryz.ntmps41
     go_wp2_with (first | ((with_reducible refine gate_callee (f := 87) rfl ?_); refine goesL_ (some 5) rfl rfl Tryz.func87 zb13 rfl #[.string a0, .int .u8 10] rfl zb2 ?_; (with_reducible refine (spec_l01Cut.calls k a0 10 t484 _ A2.out).mono ?_); rintro e w8 ⟨v485, rfl, ho0, hb⟩; refine ⟨_, rfl, ?_⟩; have HO486 := Aside0.mk (Kd.R_lower ho0 (below_size zb0)); replace HB := Aside0.mk (below_step zb0 hb); (try clear hb); (try clear ho0); obtain ⟨Ao9, co9, eo9⟩ := Kd.R_slice HO486.out; subst eo9; have p487 : 0 ≤ ((ji3) : Int) := of_decide_eq_true zb5; have q487 : (ji3) < (t484.length : Int) := of_decide_eq_true zb5; obtain ⟨ad487, e487, hx487_0⟩ := Kd.at_string (Kd.R_reads' HO486.out).2.2 (ji3) p487 q487; cases e487; replace p487 := eq_true p487; replace q487 := eq_true q487; have q10 : ((ji3) : Int) ≤ ((t484.length : Int) : Int) := of_decide_eq_true zb5; obtain ⟨i010, hi010, _, hsz10, _⟩ := info_parts info9; have hcut10 := cut_to (P := Tryz.prog) 40 9 .i64 Tryz.underlying40 hi010 (some ad487) t484.length co9 (ji3) (of_decide_eq_true zb5) q10 (Kd.R_reads' HO486.out).2.1; have hr10 := Kd.R_take (m := ((ji3) : Int).toNat) HO486.out zb40; have hy10 : y488.length = ((ji3) : Int).toNat := (by rw [Ny488.out, List.length_take]; omega); rw [← Ny488.out] at hr10; rw [← hy10] at hr10 hcut10; clear hy10 hi010 hsz10 HO486; have HO490 := Aside0.mk hr10; clear hr10; replace q10 := eq_true q10))
     go_ret
     exact ⟨_, zb32, (zR HO490.out), zb0⟩
    ·rw [if_neg c7] at H
     exact absurd H zb26
   ·rw [if_neg c6] at H
    have c6b0 : ((rdOf ByteArray.empty t484 (ji3)).toList == ([] : List UInt8)) = false := beq_eq_false_iff_ne.mpr c6
    have c6b1 : ((rdOf ByteArray.empty t484 (ji3)).toList != ([] : List UInt8)) = true := bne_iff_ne.mpr c6
    obtain rfl := Option.some.inj H
    go_enter Tryz.func41, Tryz.ntmps41
    go_wp2_with (first | ((with_reducible refine gate_callee (f := 87) rfl ?_); refine goesL_ (some 5) rfl rfl Tryz.func87 zb13 rfl #[.string a0, .int .u8 10] rfl zb2 ?_; (with_reducible refine (spec_l01Cut.calls k a0 10 t484 _ A2.out).mono ?_); rintro e w11 ⟨v485, rfl, ho0, hb⟩; refine ⟨_, rfl, ?_⟩; have HO486 := Aside0.mk (Kd.R_lower ho0 (below_size zb0)); replace HB := Aside0.mk (below_step zb0 hb); (try clear hb); (try clear ho0); obtain ⟨Ao12, co12, eo12⟩ := Kd.R_slice HO486.out; subst eo12; have p487 : 0 ≤ ((ji3) : Int) := of_decide_eq_true zb5; have q487 : (ji3) < (t484.length : Int) := of_decide_eq_true zb5; obtain ⟨ad487, e487, hx487_0⟩ := Kd.at_string (Kd.R_reads' HO486.out).2.2 (ji3) p487 q487; cases e487; replace p487 := eq_true p487; replace q487 := eq_true q487))
    go_ret
    exact ⟨_, zb32, (zR HO486.out), zb0⟩
  ·rw [if_neg c5] at H
   exact absurd H zb26
 ·rw [if_neg c4] at H
  exact absurd H zb26
end Go.Proofs.YtbfbomcfmgdpkaaGreatDoor.G

end
section
namespace Go.Proofs.YtbfbomcfmgdpkaaGreatDoor.VI
open Go Go.RowKit Go.Proofs.YtbfbomcfmgdpkaaGreatDoor.G Go.Proofs.YtbfbomcfmgdpkaaGreatDoorW.PrintWords
set_option maxRecDepth 100000
set_option linter.unusedVariables false
set_option linter.unusedSimpArgs false
theorem spec_DrawQuote.giv {W : World} (hE : Glob FactE W) (hM : Glob FactM W) (hT : Glob FactT W) : ∀ vs r, spec_DrawQuote.gv vs = some r → CallOk1 Tryz.prog W.heap.size (fun w => Below W.heap.size W w) 22 vs r := by
  intro vs r h
  unfold spec_DrawQuote.gv at h
  split at h
  case h_2 => cases h
  rename_i q0
  obtain ⟨l0, hq0, h2⟩ := obind_some h
  obtain rfl := byL_map _ _ hq0
  obtain ⟨q, hq, rfl⟩ := Option.map_eq_some_iff.1 h2
  obtain ⟨k, hk⟩ := limF_inv hq
  refine giv_ok ⟨_, Tryz.func22, by kernel_rfl, by kernel_rfl⟩ rfl fun w ms pd hw hd => ?_
  obtain ⟨m0, ms0, rfl, h0, hd⟩ := drs_cons hd
  obtain rfl := drs_nil hd
  obtain ⟨A0, c0, rfl, hc0, hr0⟩ := c_of_dr (mk := Value.int .u8) (h1 := fun _ => rfl) h0
  exact (spec_DrawQuote.calls (l0 := l0) (r := q) (w := w) (h := hk) (k := k) (A0 := A0) (c0 := c0) (hr0 := hr0) (hc0 := hc0)).mono fun e w' he => ⟨_, he.1, (he.2), resOf_s _⟩
theorem impl_Quote.giv {W : World} (hE : Glob FactE W) (hM : Glob FactM W) (hT : Glob FactT W) : ∀ vs r, impl_Quote.gv vs = some r → CallOk1 Tryz.prog W.heap.size (fun w => Below W.heap.size W w) 23 vs r := by
  intro vs r h
  unfold impl_Quote.gv at h
  split at h
  case h_2 => cases h
  rename_i a0
  obtain ⟨q, hq, rfl⟩ := Option.map_eq_some_iff.1 h
  obtain ⟨k, hk⟩ := limF_inv hq
  refine giv_ok ⟨_, Tryz.func23, by kernel_rfl, by kernel_rfl⟩ rfl fun w ms pd hw hd => ?_
  obtain ⟨m0, ms0, rfl, h0, hd⟩ := drs_cons hd
  obtain rfl := drs_nil hd
  obtain rfl := dr_s h0
  exact (impl_Quote.calls (a0 := a0) (r := q) (w := w) (h := hk) (k := k)).mono fun e w' he => ⟨_, he.1, (he.2), resOf_s _⟩
theorem spec_DrawUnquote.giv {W : World} (hE : Glob FactE W) (hM : Glob FactM W) (hT : Glob FactT W) : ∀ vs r, spec_DrawUnquote.gv vs = some r → CallOk1 Tryz.prog W.heap.size (fun w => Below W.heap.size W w) 24 vs r := by
  intro vs r h
  unfold spec_DrawUnquote.gv at h
  split at h
  case h_2 => cases h
  rename_i q0
  obtain ⟨l0, hq0, h2⟩ := obind_some h
  obtain rfl := byL_map _ _ hq0
  obtain ⟨q, hq, rfl⟩ := Option.map_eq_some_iff.1 h2
  obtain ⟨k, hk⟩ := limF_inv hq
  refine giv_ok ⟨_, Tryz.func24, by kernel_rfl, by kernel_rfl⟩ rfl fun w ms pd hw hd => ?_
  obtain ⟨m0, ms0, rfl, h0, hd⟩ := drs_cons hd
  obtain rfl := drs_nil hd
  obtain ⟨A0, c0, rfl, hc0, hr0⟩ := c_of_dr (mk := Value.int .u8) (h1 := fun _ => rfl) h0
  exact (spec_DrawUnquote.calls (l0 := l0) (r1 := q.1) (r2 := q.2) (w := w) (h := hk) (k := k) (A0 := A0) (c0 := c0) (hr0 := hr0) (hc0 := hc0)).mono fun e w' he => ⟨_, he.1, (he.2), resOf_tu [.string q.1, .int .i64 q.2]⟩
theorem impl_Unquote.giv {W : World} (hE : Glob FactE W) (hM : Glob FactM W) (hT : Glob FactT W) : ∀ vs r, impl_Unquote.gv vs = some r → CallOk1 Tryz.prog W.heap.size (fun w => Below W.heap.size W w) 25 vs r := by
  intro vs r h
  unfold impl_Unquote.gv at h
  split at h
  case h_2 => cases h
  rename_i a0 a1
  obtain ⟨q, hq, rfl⟩ := Option.map_eq_some_iff.1 h
  obtain ⟨k, hk⟩ := limF_inv hq
  refine giv_ok ⟨_, Tryz.func25, by kernel_rfl, by kernel_rfl⟩ rfl fun w ms pd hw hd => ?_
  obtain ⟨m0, ms0, rfl, h0, hd⟩ := drs_cons hd
  obtain ⟨m1, ms1, rfl, h1, hd⟩ := drs_cons hd
  obtain rfl := drs_nil hd
  obtain rfl := dr_s h0
  obtain rfl := dr_s h1
  exact (impl_Unquote.calls (a0 := a0) (a1 := a1) (r1 := q.1) (r2 := q.2) (w := w) (h := hk) (k := k)).mono fun e w' he => ⟨_, he.1, (he.2), resOf_tu [.string q.1, .int .i64 q.2]⟩
theorem spec_Unquote.giv {W : World} (hE : Glob FactE W) (hM : Glob FactM W) (hT : Glob FactT W) : ∀ vs r, spec_Unquote.gv vs = some r → CallOk1 Tryz.prog W.heap.size (fun w => Below W.heap.size W w) 26 vs r := by
  intro vs r h
  unfold spec_Unquote.gv at h
  split at h
  case h_2 => cases h
  rename_i a0 a1
  obtain ⟨q, hq, rfl⟩ := Option.map_eq_some_iff.1 h
  obtain ⟨k, hk⟩ := limF_inv hq
  refine giv_ok ⟨_, Tryz.func26, by kernel_rfl, by kernel_rfl⟩ rfl fun w ms pd hw hd => ?_
  obtain ⟨m0, ms0, rfl, h0, hd⟩ := drs_cons hd
  obtain ⟨m1, ms1, rfl, h1, hd⟩ := drs_cons hd
  obtain rfl := drs_nil hd
  obtain rfl := dr_s h0
  obtain rfl := dr_s h1
  exact (spec_Unquote.calls (a0 := a0) (a1 := a1) (r1 := q.1) (r2 := q.2) (w := w) (h := hk) (k := k)).mono fun e w' he => ⟨_, he.1, (he.2), resOf_tu [.string q.1, .int .i64 q.2]⟩
theorem spec_DrawLines.giv {W : World} (hE : Glob FactE W) (hM : Glob FactM W) (hT : Glob FactT W) : ∀ vs r, spec_DrawLines.gv vs = some r → CallOk1 Tryz.prog W.heap.size (fun w => Below W.heap.size W w) 27 vs r := by
  intro vs r h
  unfold spec_DrawLines.gv at h
  split at h
  case h_2 => cases h
  rename_i q0
  obtain ⟨l0, hq0, h2⟩ := obind_some h
  obtain rfl := byL_map _ _ hq0
  obtain ⟨q, hq, rfl⟩ := Option.map_eq_some_iff.1 h2
  obtain ⟨k, hk⟩ := limF_inv hq
  refine giv_ok ⟨_, Tryz.func27, by kernel_rfl, by kernel_rfl⟩ rfl fun w ms pd hw hd => ?_
  obtain ⟨m0, ms0, rfl, h0, hd⟩ := drs_cons hd
  obtain rfl := drs_nil hd
  obtain ⟨A0, c0, rfl, hc0, hr0⟩ := c_of_dr (mk := Value.int .u8) (h1 := fun _ => rfl) h0
  exact (spec_DrawLines.calls (l0 := l0) (r := q) (w := w) (h := hk) (k := k) (A0 := A0) (c0 := c0) (hr0 := hr0) (hc0 := hc0)).mono fun e w' he => ⟨_, he.1, (he.2), resOf_s _⟩
theorem impl_Lines.giv {W : World} (hE : Glob FactE W) (hM : Glob FactM W) (hT : Glob FactT W) : ∀ vs r, impl_Lines.gv vs = some r → CallOk1 Tryz.prog W.heap.size (fun w => Below W.heap.size W w) 28 vs r := by
  intro vs r h
  unfold impl_Lines.gv at h
  split at h
  case h_2 => cases h
  rename_i a0
  obtain ⟨q, hq, rfl⟩ := Option.map_eq_some_iff.1 h
  refine giv_ok ⟨_, Tryz.func28, by kernel_rfl, by kernel_rfl⟩ rfl fun w ms pd hw hd => ?_
  obtain ⟨m0, ms0, rfl, h0, hd⟩ := drs_cons hd
  obtain rfl := drs_nil hd
  obtain rfl := dr_s h0
  refine (impl_Lines.calls (a0 := a0) (r := q) (w := w) (h := hq) (hGM := Glob.below hM hw)).mono fun e w' he => ?_
  obtain ⟨v0, rfl, hR, hb⟩ := he
  refine ⟨v0, rfl, hb, resOf_ow (mk := Value.string) (fun _ => rfl) ?_ (Kd.own_of_R hR)⟩
  exact (Kd.R_reads hR).elim fun _ ⟨_, _, _, hC⟩ => hC.2.1
theorem spec_DrawWords.giv {W : World} (hE : Glob FactE W) (hM : Glob FactM W) (hT : Glob FactT W) : ∀ vs r, spec_DrawWords.gv vs = some r → CallOk1 Tryz.prog W.heap.size (fun w => Below W.heap.size W w) 29 vs r := by
  intro vs r h
  unfold spec_DrawWords.gv at h
  split at h
  case h_2 => cases h
  rename_i q0
  obtain ⟨l0, hq0, h2⟩ := obind_some h
  obtain rfl := byL_map _ _ hq0
  obtain ⟨q, hq, rfl⟩ := Option.map_eq_some_iff.1 h2
  obtain ⟨k, hk⟩ := limF_inv hq
  refine giv_ok ⟨_, Tryz.func29, by kernel_rfl, by kernel_rfl⟩ rfl fun w ms pd hw hd => ?_
  obtain ⟨m0, ms0, rfl, h0, hd⟩ := drs_cons hd
  obtain rfl := drs_nil hd
  obtain ⟨A0, c0, rfl, hc0, hr0⟩ := c_of_dr (mk := Value.int .u8) (h1 := fun _ => rfl) h0
  exact (spec_DrawWords.calls (l0 := l0) (r := q) (w := w) (h := hk) (k := k) (A0 := A0) (c0 := c0) (hr0 := hr0) (hc0 := hc0)).mono fun e w' he => ⟨_, he.1, (he.2), resOf_s _⟩
theorem spec_DrawIndent.giv {W : World} (hE : Glob FactE W) (hM : Glob FactM W) (hT : Glob FactT W) : ∀ vs r, spec_DrawIndent.gv vs = some r → CallOk1 Tryz.prog W.heap.size (fun w => Below W.heap.size W w) 31 vs r := by
  intro vs r h
  unfold spec_DrawIndent.gv at h
  split at h
  case h_2 => cases h
  rename_i q0
  obtain ⟨l0, hq0, h2⟩ := obind_some h
  obtain rfl := byL_map _ _ hq0
  obtain ⟨q, hq, rfl⟩ := Option.map_eq_some_iff.1 h2
  obtain ⟨k, hk⟩ := limF_inv hq
  refine giv_ok ⟨_, Tryz.func31, by kernel_rfl, by kernel_rfl⟩ rfl fun w ms pd hw hd => ?_
  obtain ⟨m0, ms0, rfl, h0, hd⟩ := drs_cons hd
  obtain rfl := drs_nil hd
  obtain ⟨A0, c0, rfl, hc0, hr0⟩ := c_of_dr (mk := Value.int .u8) (h1 := fun _ => rfl) h0
  exact (spec_DrawIndent.calls (l0 := l0) (r := q) (w := w) (h := hk) (k := k) (A0 := A0) (c0 := c0) (hr0 := hr0) (hc0 := hc0)).mono fun e w' he => ⟨_, he.1, (he.2), resOf_s _⟩
theorem spec_DrawDecText.giv {W : World} (hE : Glob FactE W) (hM : Glob FactM W) (hT : Glob FactT W) : ∀ vs r, spec_DrawDecText.gv vs = some r → CallOk1 Tryz.prog W.heap.size (fun w => Below W.heap.size W w) 32 vs r := by
  intro vs r h
  unfold spec_DrawDecText.gv at h
  split at h
  case h_2 => cases h
  rename_i q0
  obtain ⟨l0, hq0, h2⟩ := obind_some h
  obtain rfl := byL_map _ _ hq0
  obtain ⟨q, hq, rfl⟩ := Option.map_eq_some_iff.1 h2
  obtain ⟨k, hk⟩ := limF_inv hq
  refine giv_ok ⟨_, Tryz.func32, by kernel_rfl, by kernel_rfl⟩ rfl fun w ms pd hw hd => ?_
  obtain ⟨m0, ms0, rfl, h0, hd⟩ := drs_cons hd
  obtain rfl := drs_nil hd
  obtain ⟨A0, c0, rfl, hc0, hr0⟩ := c_of_dr (mk := Value.int .u8) (h1 := fun _ => rfl) h0
  exact (spec_DrawDecText.calls (l0 := l0) (r := q) (w := w) (h := hk) (k := k) (A0 := A0) (c0 := c0) (hr0 := hr0) (hc0 := hc0)).mono fun e w' he => ⟨_, he.1, (he.2), resOf_s _⟩
theorem spec_DrawReadDec.giv {W : World} (hE : Glob FactE W) (hM : Glob FactM W) (hT : Glob FactT W) : ∀ vs r, spec_DrawReadDec.gv vs = some r → CallOk1 Tryz.prog W.heap.size (fun w => Below W.heap.size W w) 33 vs r := by
  intro vs r h
  unfold spec_DrawReadDec.gv at h
  split at h
  case h_2 => cases h
  rename_i q0
  obtain ⟨l0, hq0, h2⟩ := obind_some h
  obtain rfl := byL_map _ _ hq0
  obtain ⟨q, hq, rfl⟩ := Option.map_eq_some_iff.1 h2
  obtain ⟨k, hk⟩ := limF_inv hq
  refine giv_ok ⟨_, Tryz.func33, by kernel_rfl, by kernel_rfl⟩ rfl fun w ms pd hw hd => ?_
  obtain ⟨m0, ms0, rfl, h0, hd⟩ := drs_cons hd
  obtain rfl := drs_nil hd
  obtain ⟨A0, c0, rfl, hc0, hr0⟩ := c_of_dr (mk := Value.int .u8) (h1 := fun _ => rfl) h0
  exact (spec_DrawReadDec.calls (l0 := l0) (r := q) (w := w) (h := hk) (k := k) (hGE := Glob.below hE hw) (hGM := Glob.below hM hw) (hGT := Glob.below hT hw) (A0 := A0) (c0 := c0) (hr0 := hr0) (hc0 := hc0)).mono fun e w' he => ⟨_, he.1, (he.2), resOf_s _⟩
theorem spec_DrawPlace.giv {W : World} (hE : Glob FactE W) (hM : Glob FactM W) (hT : Glob FactT W) : ∀ vs r, spec_DrawPlace.gv vs = some r → CallOk1 Tryz.prog W.heap.size (fun w => Below W.heap.size W w) 34 vs r := by
  intro vs r h
  unfold spec_DrawPlace.gv at h
  split at h
  case h_2 => cases h
  rename_i q0
  obtain ⟨l0, hq0, h2⟩ := obind_some h
  obtain rfl := byL_map _ _ hq0
  obtain ⟨q, hq, rfl⟩ := Option.map_eq_some_iff.1 h2
  obtain ⟨k, hk⟩ := limF_inv hq
  refine giv_ok ⟨_, Tryz.func34, by kernel_rfl, by kernel_rfl⟩ rfl fun w ms pd hw hd => ?_
  obtain ⟨m0, ms0, rfl, h0, hd⟩ := drs_cons hd
  obtain rfl := drs_nil hd
  obtain ⟨A0, c0, rfl, hc0, hr0⟩ := c_of_dr (mk := Value.int .u8) (h1 := fun _ => rfl) h0
  exact (spec_DrawPlace.calls (l0 := l0) (r1 := q.1) (r2 := q.2) (w := w) (h := hk) (k := k) (A0 := A0) (c0 := c0) (hr0 := hr0) (hc0 := hc0)).mono fun e w' he => ⟨_, he.1, (he.2), resOf_tu [.string q.1, .int .i64 q.2]⟩
theorem impl_Place.giv {W : World} (hE : Glob FactE W) (hM : Glob FactM W) (hT : Glob FactT W) : ∀ vs r, impl_Place.gv vs = some r → CallOk1 Tryz.prog W.heap.size (fun w => Below W.heap.size W w) 35 vs r := by
  intro vs r h
  unfold impl_Place.gv at h
  split at h
  case h_2 => cases h
  rename_i a0 a1
  obtain ⟨q, hq, rfl⟩ := Option.map_eq_some_iff.1 h
  refine giv_ok ⟨_, Tryz.func35, by kernel_rfl, by kernel_rfl⟩ rfl fun w ms pd hw hd => ?_
  obtain ⟨m0, ms0, rfl, h0, hd⟩ := drs_cons hd
  obtain ⟨m1, ms1, rfl, h1, hd⟩ := drs_cons hd
  obtain rfl := drs_nil hd
  obtain rfl := dr_s h0
  obtain rfl := dr_s h1
  exact (impl_Place.calls (a0 := a0) (a1 := a1) (r1 := q.1) (r2 := q.2) (w := w) (h := hq)).mono fun e w' he => ⟨_, he.1, (Drawn0.below he.2), resOf_tu [.int .i64 q.1, .int .i64 q.2]⟩
theorem spec_DrawNameOk.giv {W : World} (hE : Glob FactE W) (hM : Glob FactM W) (hT : Glob FactT W) : ∀ vs r, spec_DrawNameOk.gv vs = some r → CallOk1 Tryz.prog W.heap.size (fun w => Below W.heap.size W w) 37 vs r := by
  intro vs r h
  unfold spec_DrawNameOk.gv at h
  split at h
  case h_2 => cases h
  rename_i q0
  obtain ⟨l0, hq0, h2⟩ := obind_some h
  obtain rfl := byL_map _ _ hq0
  obtain ⟨q, hq, rfl⟩ := Option.map_eq_some_iff.1 h2
  obtain ⟨k, hk⟩ := limF_inv hq
  refine giv_ok ⟨_, Tryz.func37, by kernel_rfl, by kernel_rfl⟩ rfl fun w ms pd hw hd => ?_
  obtain ⟨m0, ms0, rfl, h0, hd⟩ := drs_cons hd
  obtain rfl := drs_nil hd
  obtain ⟨A0, c0, rfl, hc0, hr0⟩ := c_of_dr (mk := Value.int .u8) (h1 := fun _ => rfl) h0
  exact (spec_DrawNameOk.calls (l0 := l0) (r := q) (w := w) (h := hk) (k := k) (A0 := A0) (c0 := c0) (hr0 := hr0) (hc0 := hc0)).mono fun e w' he => ⟨_, he.1, (he.2), resOf_s _⟩
theorem spec_DrawPlainOk.giv {W : World} (hE : Glob FactE W) (hM : Glob FactM W) (hT : Glob FactT W) : ∀ vs r, spec_DrawPlainOk.gv vs = some r → CallOk1 Tryz.prog W.heap.size (fun w => Below W.heap.size W w) 38 vs r := by
  intro vs r h
  unfold spec_DrawPlainOk.gv at h
  split at h
  case h_2 => cases h
  rename_i q0
  obtain ⟨l0, hq0, h2⟩ := obind_some h
  obtain rfl := byL_map _ _ hq0
  obtain ⟨q, hq, rfl⟩ := Option.map_eq_some_iff.1 h2
  obtain ⟨k, hk⟩ := limF_inv hq
  refine giv_ok ⟨_, Tryz.func38, by kernel_rfl, by kernel_rfl⟩ rfl fun w ms pd hw hd => ?_
  obtain ⟨m0, ms0, rfl, h0, hd⟩ := drs_cons hd
  obtain rfl := drs_nil hd
  obtain ⟨A0, c0, rfl, hc0, hr0⟩ := c_of_dr (mk := Value.int .u8) (h1 := fun _ => rfl) h0
  exact (spec_DrawPlainOk.calls (l0 := l0) (r := q) (w := w) (h := hk) (k := k) (A0 := A0) (c0 := c0) (hr0 := hr0) (hc0 := hc0)).mono fun e w' he => ⟨_, he.1, (he.2), resOf_s _⟩
theorem spec_Quote.giv {W : World} (hE : Glob FactE W) (hM : Glob FactM W) (hT : Glob FactT W) : ∀ vs r, spec_Quote.gv vs = some r → CallOk1 Tryz.prog W.heap.size (fun w => Below W.heap.size W w) 39 vs r := by
  intro vs r h
  unfold spec_Quote.gv at h
  split at h
  case h_2 => cases h
  rename_i a0
  obtain ⟨q, hq, rfl⟩ := Option.map_eq_some_iff.1 h
  obtain ⟨k, hk⟩ := limF_inv hq
  refine giv_ok ⟨_, Tryz.func39, by kernel_rfl, by kernel_rfl⟩ rfl fun w ms pd hw hd => ?_
  obtain ⟨m0, ms0, rfl, h0, hd⟩ := drs_cons hd
  obtain rfl := drs_nil hd
  obtain rfl := dr_s h0
  exact (spec_Quote.calls (a0 := a0) (r := q) (w := w) (h := hk) (k := k)).mono fun e w' he => ⟨_, he.1, (he.2), resOf_s _⟩
theorem spec_Lines.giv {W : World} (hE : Glob FactE W) (hM : Glob FactM W) (hT : Glob FactT W) : ∀ vs r, spec_Lines.gv vs = some r → CallOk1 Tryz.prog W.heap.size (fun w => Below W.heap.size W w) 41 vs r := by
  intro vs r h
  unfold spec_Lines.gv at h
  split at h
  case h_2 => cases h
  rename_i a0
  obtain ⟨q, hq, rfl⟩ := Option.map_eq_some_iff.1 h
  obtain ⟨k, hk⟩ := limF_inv hq
  refine giv_ok ⟨_, Tryz.func41, by kernel_rfl, by kernel_rfl⟩ rfl fun w ms pd hw hd => ?_
  obtain ⟨m0, ms0, rfl, h0, hd⟩ := drs_cons hd
  obtain rfl := drs_nil hd
  obtain rfl := dr_s h0
  refine (spec_Lines.calls (a0 := a0) (r := q) (w := w) (h := hk) (k := k)).mono fun e w' he => ?_
  obtain ⟨v0, rfl, hR, hb⟩ := he
  refine ⟨v0, rfl, hb, resOf_ow (mk := Value.string) (fun _ => rfl) ?_ (Kd.own_of_R hR)⟩
  exact (Kd.R_reads hR).elim fun _ ⟨_, _, _, hC⟩ => hC.2.1
theorem given_ok {W : World} (hE : Glob FactE W) (hM : Glob FactM W) (hT : Glob FactT W) : GivenOk Tryz.prog W.heap.size (fun w => Below W.heap.size W w) Gv := by
  intro f g vs r hg hr
  unfold Gv at hg
  split at hg
  · cases hg; exact spec_DrawQuote.giv hE hM hT vs r hr
  · cases hg; exact impl_Quote.giv hE hM hT vs r hr
  · cases hg; exact spec_DrawUnquote.giv hE hM hT vs r hr
  · cases hg; exact impl_Unquote.giv hE hM hT vs r hr
  · cases hg; exact spec_Unquote.giv hE hM hT vs r hr
  · cases hg; exact spec_DrawLines.giv hE hM hT vs r hr
  · cases hg; exact impl_Lines.giv hE hM hT vs r hr
  · cases hg; exact spec_DrawWords.giv hE hM hT vs r hr
  · cases hg; exact spec_DrawIndent.giv hE hM hT vs r hr
  · cases hg; exact spec_DrawDecText.giv hE hM hT vs r hr
  · cases hg; exact spec_DrawReadDec.giv hE hM hT vs r hr
  · cases hg; exact spec_DrawPlace.giv hE hM hT vs r hr
  · cases hg; exact impl_Place.giv hE hM hT vs r hr
  · cases hg; exact spec_DrawNameOk.giv hE hM hT vs r hr
  · cases hg; exact spec_DrawPlainOk.giv hE hM hT vs r hr
  · cases hg; exact spec_Quote.giv hE hM hT vs r hr
  · cases hg; exact spec_Lines.giv hE hM hT vs r hr
  · exact given_ok0 hE hM hT _ g vs r hg hr
end Go.Proofs.YtbfbomcfmgdpkaaGreatDoor.VI

end
section
namespace Go.Proofs.YtbfbomcfmgdpkaaGreatDoor.VI
open Go Go.RowKit Go.Proofs.YtbfbomcfmgdpkaaGreatDoor.G Go.Proofs.YtbfbomcfmgdpkaaGreatDoorW.PrintWords
set_option maxRecDepth 100000
set_option maxHeartbeats 16000000
theorem strconv_Itoa.vi {m : Nat} {Gv : FuncId → Option (List VV → Option (VV × List VV))} (hG : Base Gv) (hm : 1 ≤ m) (a0 : Int) : Im (fun r => (.str r, [])) (strconv_Itoa.f a0) (callv Tryz.prog ti keep Gv m 89 [.int a0]) := by
  obtain ⟨m, rfl⟩ : ∃ m', m = m' + 1 := ⟨m - 1, by omega⟩
  rw [show callv Tryz.prog ti keep Gv (m + 1) 89 _ = _ from callv_given ((hG 89 (by decide) (by decide) (by decide) (by decide) (by decide) (by decide) (by decide) (by decide) (by decide) (by decide) (by decide) (by decide) (by decide) (by decide) (by decide) (by decide) (by decide)).trans rfl)]
  intro r h
  rw [show strconv_Itoa.gv [.int a0] = (strconv_Itoa.f a0).map (fun r => (.str r, [])) from rfl, h]
  rfl
end Go.Proofs.YtbfbomcfmgdpkaaGreatDoor.VI

end
section
namespace Go.Proofs.YtbfbomcfmgdpkaaGreatDoor.VI
open Go Go.RowKit Go.Proofs.YtbfbomcfmgdpkaaGreatDoor.G Go.Proofs.YtbfbomcfmgdpkaaGreatDoorW.PrintWords
set_option maxRecDepth 100000
set_option maxHeartbeats 16000000
attribute [local irreducible] bite obind vget
theorem impl_DecText.vi {m : Nat} {Gv : FuncId → Option (List VV → Option (VV × List VV))} (hG : Base Gv) (hm : 2 ≤ m) (a0 : Int) : Im (fun r => (.str r, [])) (impl_DecText.f a0) (callv Tryz.prog ti keep Gv m 45 [.int a0]) := by
  obtain ⟨m, rfl⟩ : ∃ m', m = m' + 1 := ⟨m - 1, by omega⟩
  rw [show callv Tryz.prog ti keep Gv (m + 1) 45 _ = _ from callv_enter ((hG 45 (by decide) (by decide) (by decide) (by decide) (by decide) (by decide) (by decide) (by decide) (by decide) (by decide) (by decide) (by decide) (by decide) (by decide) (by decide) (by decide) (by decide)).trans rfl) Tryz.func45 (by kernel_rfl) rfl rfl]
  unfold impl_DecText.f
  repeat' first
    | (with_reducible first | exact Im.none | refine Im.ite (fun h => ?_) (fun h => ?_) | refine Im.sbind ?_)
    | ((conv => arg 3; whnf); first
      | ((with_reducible refine Im.fin ?_); exact zr)
      | ((with_reducible refine Im.anyo ?_ ?_); (next => kernel_rfl))
      | ((with_reducible refine Im.bite_t ?_ ?_); (next => exact zq))
      | ((with_reducible refine Im.bite_f ?_ ?_); (next => exact zq))
      | ((with_reducible refine Im.bite_t ?_ ?_); (next => exact zd))
      | ((with_reducible refine Im.must ?_ ?_); (next => exact zd))
      | ((with_reducible refine Im.bite_f ?_ ?_); (next => exact zd))
      | (with_reducible refine Im.byl ?_)
      | ((with_reducible refine Im.vget ByteArray.empty ?_ ?_ ?_); (next => exact zd); (next => exact zd))
      | ((with_reducible refine Im.vget (0 : Int) ?_ ?_ ?_); (next => exact zd); (next => exact zd))
      | ((with_reducible refine Im.vget false ?_ ?_ ?_); (next => exact zd); (next => exact zd))
      | ((with_reducible refine Im.call (strconv_Itoa.vi hG ?_ _) ?_ (fun r hr => ?_)); (next => omega); (next => exact zr))
      | exact zm | exact zx | fail)
  all_goals skip
end Go.Proofs.YtbfbomcfmgdpkaaGreatDoor.VI

end
section
namespace Go.Proofs.YtbfbomcfmgdpkaaGreatDoor.VI
open Go Go.RowKit Go.Proofs.YtbfbomcfmgdpkaaGreatDoor.G Go.Proofs.YtbfbomcfmgdpkaaGreatDoorW.PrintWords
set_option maxRecDepth 100000
set_option maxHeartbeats 16000000
theorem strings_TrimLeft.vi {m : Nat} {Gv : FuncId → Option (List VV → Option (VV × List VV))} (hG : Base Gv) (hm : 1 ≤ m) (a0 : ByteArray) (a1 : ByteArray) : Im (fun r => (.str r, [])) (strings_TrimLeft.f a0 a1) (callv Tryz.prog ti keep Gv m 88 [.str a0, .str a1]) := by
  obtain ⟨m, rfl⟩ : ∃ m', m = m' + 1 := ⟨m - 1, by omega⟩
  rw [show callv Tryz.prog ti keep Gv (m + 1) 88 _ = _ from callv_given ((hG 88 (by decide) (by decide) (by decide) (by decide) (by decide) (by decide) (by decide) (by decide) (by decide) (by decide) (by decide) (by decide) (by decide) (by decide) (by decide) (by decide) (by decide)).trans rfl)]
  intro r h
  rw [show strings_TrimLeft.gv [.str a0, .str a1] = (strings_TrimLeft.f a0 a1).map (fun r => (.str r, [])) from rfl, h]
  rfl
end Go.Proofs.YtbfbomcfmgdpkaaGreatDoor.VI

end
section
namespace Go.Proofs.YtbfbomcfmgdpkaaGreatDoor.VI
open Go Go.RowKit Go.Proofs.YtbfbomcfmgdpkaaGreatDoor.G Go.Proofs.YtbfbomcfmgdpkaaGreatDoorW.PrintWords
set_option maxRecDepth 100000
set_option maxHeartbeats 16000000
attribute [local irreducible] bite obind vget
theorem impl_Indent.vi {m : Nat} {Gv : FuncId → Option (List VV → Option (VV × List VV))} (hG : Base Gv) (hm : 2 ≤ m) (a0 : ByteArray) : Im (fun r => (.int r, [])) (impl_Indent.f a0) (callv Tryz.prog ti keep Gv m 43 [.str a0]) := by
  obtain ⟨m, rfl⟩ : ∃ m', m = m' + 1 := ⟨m - 1, by omega⟩
  rw [show callv Tryz.prog ti keep Gv (m + 1) 43 _ = _ from callv_enter ((hG 43 (by decide) (by decide) (by decide) (by decide) (by decide) (by decide) (by decide) (by decide) (by decide) (by decide) (by decide) (by decide) (by decide) (by decide) (by decide) (by decide) (by decide)).trans rfl) Tryz.func43 (by kernel_rfl) rfl rfl]
  unfold impl_Indent.f
  repeat' first
    | (with_reducible first | exact Im.none | refine Im.ite (fun h => ?_) (fun h => ?_) | refine Im.sbind ?_)
    | ((conv => arg 3; whnf); first
      | ((with_reducible refine Im.fin ?_); exact zr)
      | ((with_reducible refine Im.anyo ?_ ?_); (next => kernel_rfl))
      | ((with_reducible refine Im.bite_t ?_ ?_); (next => exact zq))
      | ((with_reducible refine Im.bite_f ?_ ?_); (next => exact zq))
      | ((with_reducible refine Im.bite_t ?_ ?_); (next => exact zd))
      | ((with_reducible refine Im.must ?_ ?_); (next => exact zd))
      | ((with_reducible refine Im.bite_f ?_ ?_); (next => exact zd))
      | (with_reducible refine Im.byl ?_)
      | ((with_reducible refine Im.vget ByteArray.empty ?_ ?_ ?_); (next => exact zd); (next => exact zd))
      | ((with_reducible refine Im.vget (0 : Int) ?_ ?_ ?_); (next => exact zd); (next => exact zd))
      | ((with_reducible refine Im.vget false ?_ ?_ ?_); (next => exact zd); (next => exact zd))
      | ((with_reducible refine Im.call (strings_TrimLeft.vi hG ?_ _ _) ?_ (fun r hr => ?_)); (next => omega); (next => exact zr))
      | exact zm | exact zx | fail)
  all_goals skip
end Go.Proofs.YtbfbomcfmgdpkaaGreatDoor.VI

end
section
namespace Go.Proofs.YtbfbomcfmgdpkaaGreatDoor.VI
open Go Go.RowKit Go.Proofs.YtbfbomcfmgdpkaaGreatDoor.G Go.Proofs.YtbfbomcfmgdpkaaGreatDoorW.PrintWords
set_option maxRecDepth 100000
set_option maxHeartbeats 16000000
set_option linter.unusedVariables false
set_option linter.unusedSimpArgs false
theorem impl_Lines.vi {m : Nat} {Gv : FuncId → Option (List VV → Option (VV × List VV))} (hG : Base Gv) (hL28 : Gv 28 = some impl_Lines.gv) (hm : 1 ≤ m) (a0 : ByteArray) : Im (fun r => (.ow 9 1 (r.map VV.str), [])) (impl_Lines.f a0) (callv Tryz.prog ti keep Gv m 28 [.str a0]) := by
  obtain ⟨m, rfl⟩ : ∃ m', m = m' + 1 := ⟨m - 1, by omega⟩
  rw [show callv Tryz.prog ti keep Gv (m + 1) 28 _ = _ from callv_given hL28]
  intro r h
  rw [show impl_Lines.gv [.str a0] = (impl_Lines.f a0).map (fun r => (.ow 9 1 (r.map VV.str), [])) from rfl, h]
  rfl
end Go.Proofs.YtbfbomcfmgdpkaaGreatDoor.VI

end
section
namespace Go.Proofs.YtbfbomcfmgdpkaaGreatDoor.VI
open Go Go.RowKit Go.Proofs.YtbfbomcfmgdpkaaGreatDoor.G Go.Proofs.YtbfbomcfmgdpkaaGreatDoorW.PrintWords
set_option maxRecDepth 100000
set_option maxHeartbeats 16000000
attribute [local irreducible] bite obind vget
theorem impl_isDigit.vi {m : Nat} {Gv : FuncId → Option (List VV → Option (VV × List VV))} (hG : Base Gv) (hm : 1 ≤ m) (a0 : Int) : Im (fun r => (.bool r, [])) (impl_isDigit.f a0) (callv Tryz.prog ti keep Gv m 95 [.byte a0]) := by
  obtain ⟨m, rfl⟩ : ∃ m', m = m' + 1 := ⟨m - 1, by omega⟩
  rw [show callv Tryz.prog ti keep Gv (m + 1) 95 _ = _ from callv_enter ((hG 95 (by decide) (by decide) (by decide) (by decide) (by decide) (by decide) (by decide) (by decide) (by decide) (by decide) (by decide) (by decide) (by decide) (by decide) (by decide) (by decide) (by decide)).trans rfl) Tryz.func95 (by kernel_rfl) rfl rfl]
  unfold impl_isDigit.f
  repeat' first
    | (with_reducible first | exact Im.none | refine Im.ite (fun h => ?_) (fun h => ?_) | refine Im.sbind ?_)
    | ((conv => arg 3; whnf); first
      | ((with_reducible refine Im.fin ?_); exact zr)
      | ((with_reducible refine Im.anyo ?_ ?_); (next => kernel_rfl))
      | ((with_reducible refine Im.bite_t ?_ ?_); (next => exact zq))
      | ((with_reducible refine Im.bite_f ?_ ?_); (next => exact zq))
      | ((with_reducible refine Im.bite_t ?_ ?_); (next => exact zd))
      | ((with_reducible refine Im.must ?_ ?_); (next => exact zd))
      | ((with_reducible refine Im.bite_f ?_ ?_); (next => exact zd))
      | (with_reducible refine Im.byl ?_)
      | ((with_reducible refine Im.vget ByteArray.empty ?_ ?_ ?_); (next => exact zd); (next => exact zd))
      | ((with_reducible refine Im.vget (0 : Int) ?_ ?_ ?_); (next => exact zd); (next => exact zd))
      | ((with_reducible refine Im.vget false ?_ ?_ ?_); (next => exact zd); (next => exact zd))
      | exact zm | exact zx | fail)
  all_goals skip
theorem impl_isLower.vi {m : Nat} {Gv : FuncId → Option (List VV → Option (VV × List VV))} (hG : Base Gv) (hm : 1 ≤ m) (a0 : Int) : Im (fun r => (.bool r, [])) (impl_isLower.f a0) (callv Tryz.prog ti keep Gv m 94 [.byte a0]) := by
  obtain ⟨m, rfl⟩ : ∃ m', m = m' + 1 := ⟨m - 1, by omega⟩
  rw [show callv Tryz.prog ti keep Gv (m + 1) 94 _ = _ from callv_enter ((hG 94 (by decide) (by decide) (by decide) (by decide) (by decide) (by decide) (by decide) (by decide) (by decide) (by decide) (by decide) (by decide) (by decide) (by decide) (by decide) (by decide) (by decide)).trans rfl) Tryz.func94 (by kernel_rfl) rfl rfl]
  unfold impl_isLower.f
  repeat' first
    | (with_reducible first | exact Im.none | refine Im.ite (fun h => ?_) (fun h => ?_) | refine Im.sbind ?_)
    | ((conv => arg 3; whnf); first
      | ((with_reducible refine Im.fin ?_); exact zr)
      | ((with_reducible refine Im.anyo ?_ ?_); (next => kernel_rfl))
      | ((with_reducible refine Im.bite_t ?_ ?_); (next => exact zq))
      | ((with_reducible refine Im.bite_f ?_ ?_); (next => exact zq))
      | ((with_reducible refine Im.bite_t ?_ ?_); (next => exact zd))
      | ((with_reducible refine Im.must ?_ ?_); (next => exact zd))
      | ((with_reducible refine Im.bite_f ?_ ?_); (next => exact zd))
      | (with_reducible refine Im.byl ?_)
      | ((with_reducible refine Im.vget ByteArray.empty ?_ ?_ ?_); (next => exact zd); (next => exact zd))
      | ((with_reducible refine Im.vget (0 : Int) ?_ ?_ ?_); (next => exact zd); (next => exact zd))
      | ((with_reducible refine Im.vget false ?_ ?_ ?_); (next => exact zd); (next => exact zd))
      | exact zm | exact zx | fail)
  all_goals skip
theorem impl_NameOk_1.vi {m : Nat} {Gv : FuncId → Option (List VV → Option (VV × List VV))} (hG : Base Gv) (hm : 2 ≤ m) (a0 : Int) : Im (fun r => (.bool r, [])) (impl_NameOk_1.f a0) (callv Tryz.prog ti keep Gv m 93 [.byte a0]) := by
  obtain ⟨m, rfl⟩ : ∃ m', m = m' + 1 := ⟨m - 1, by omega⟩
  rw [show callv Tryz.prog ti keep Gv (m + 1) 93 _ = _ from callv_enter ((hG 93 (by decide) (by decide) (by decide) (by decide) (by decide) (by decide) (by decide) (by decide) (by decide) (by decide) (by decide) (by decide) (by decide) (by decide) (by decide) (by decide) (by decide)).trans rfl) Tryz.func93 (by kernel_rfl) rfl rfl]
  unfold impl_NameOk_1.f
  repeat' first
    | (with_reducible first | exact Im.none | refine Im.ite (fun h => ?_) (fun h => ?_) | refine Im.sbind ?_)
    | ((conv => arg 3; whnf); first
      | ((with_reducible refine Im.fin ?_); exact zr)
      | ((with_reducible refine Im.anyo ?_ ?_); (next => kernel_rfl))
      | ((with_reducible refine Im.bite_t ?_ ?_); (next => exact zq))
      | ((with_reducible refine Im.bite_f ?_ ?_); (next => exact zq))
      | ((with_reducible refine Im.bite_t ?_ ?_); (next => exact zd))
      | ((with_reducible refine Im.must ?_ ?_); (next => exact zd))
      | ((with_reducible refine Im.bite_f ?_ ?_); (next => exact zd))
      | (with_reducible refine Im.byl ?_)
      | ((with_reducible refine Im.vget ByteArray.empty ?_ ?_ ?_); (next => exact zd); (next => exact zd))
      | ((with_reducible refine Im.vget (0 : Int) ?_ ?_ ?_); (next => exact zd); (next => exact zd))
      | ((with_reducible refine Im.vget false ?_ ?_ ?_); (next => exact zd); (next => exact zd))
      | ((with_reducible refine Im.call (impl_isDigit.vi hG ?_ _) ?_ (fun r hr => ?_)); (next => omega); (next => exact zr))
      | ((with_reducible refine Im.call (impl_isLower.vi hG ?_ _) ?_ (fun r hr => ?_)); (next => omega); (next => exact zr))
      | exact zm | exact zx | fail)
  all_goals skip
theorem impl_all__impl_NameOk_1.vi {k m : Nat} {Gv : FuncId → Option (List VV → Option (VV × List VV))} (hG : Base Gv) (hm : k + 3 ≤ m) (a0 : ByteArray) : Im (fun r => (.bool r, [])) (impl_all__impl_NameOk_1.f k a0) (callv Tryz.prog ti keep Gv m 92 [.str a0, .cl 93 []]) := by
  obtain ⟨m, rfl⟩ : ∃ m', m = m' + 1 := ⟨m - 1, by omega⟩
  rw [show callv Tryz.prog ti keep Gv (m + 1) 92 _ = _ from callv_enter ((hG 92 (by decide) (by decide) (by decide) (by decide) (by decide) (by decide) (by decide) (by decide) (by decide) (by decide) (by decide) (by decide) (by decide) (by decide) (by decide) (by decide) (by decide)).trans rfl) Tryz.func92 (by kernel_rfl) rfl rfl]
  unfold impl_all__impl_NameOk_1.f
  repeat' first
    | (with_reducible first | exact Im.none | refine Im.ite (fun h => ?_) (fun h => ?_) | refine Im.sbind ?_)
    | ((conv => arg 3; whnf); first
      | ((with_reducible refine Im.fin ?_); exact zr)
      | ((with_reducible refine Im.anyo ?_ ?_); (next => kernel_rfl))
      | ((with_reducible refine Im.bite_t ?_ ?_); (next => exact zq))
      | ((with_reducible refine Im.bite_f ?_ ?_); (next => exact zq))
      | ((with_reducible refine Im.bite_t ?_ ?_); (next => exact zd))
      | ((with_reducible refine Im.must ?_ ?_); (next => exact zd))
      | ((with_reducible refine Im.bite_f ?_ ?_); (next => exact zd))
      | (with_reducible refine Im.byl ?_)
      | ((with_reducible refine Im.vget ByteArray.empty ?_ ?_ ?_); (next => exact zd); (next => exact zd))
      | ((with_reducible refine Im.vget (0 : Int) ?_ ?_ ?_); (next => exact zd); (next => exact zd))
      | ((with_reducible refine Im.vget false ?_ ?_ ?_); (next => exact zd); (next => exact zd))
      | ((with_reducible refine Im.call (impl_NameOk_1.vi hG ?_ _) ?_ (fun r hr => ?_)); (next => omega); (next => exact zr))
      | ((with_reducible refine Im.loop (S := fun s : ByteArray × Int × Int => [.str s.1, .cl 93 [], .un, .un, .un, .un, .un, .int s.2.1, .int s.2.2, .un, .un, .un, .un, .un, .un, .un, .un, .un]) (L := fun k s => impl_all__impl_NameOk_1.l0 k s.1 s.2.1 s.2.2) _ ?_ ?_ _ _ ⟨_, _, _⟩ _ (Nat.le_refl _) zo ?_)
         (next => intro s; rfl)
         (next =>
           intro k1 M1 ⟨x0, x7, x8⟩ hk1 hM1 ih1
           conv => arg 2; simp only [impl_all__impl_NameOk_1.l0]
           repeat' first
             | (with_reducible first | exact Im.none | refine Im.ite (fun h => ?_) (fun h => ?_) | refine Im.sbind ?_)
             | ((conv => arg 3; whnf); first
               | ((with_reducible refine Im.fin ?_); exact zr)
               | ((with_reducible refine Im.anyo ?_ ?_); (next => kernel_rfl))
               | ((with_reducible refine Im.bite_t ?_ ?_); (next => exact zq))
               | ((with_reducible refine Im.bite_f ?_ ?_); (next => exact zq))
               | ((with_reducible refine Im.bite_t ?_ ?_); (next => exact zd))
               | ((with_reducible refine Im.must ?_ ?_); (next => exact zd))
               | ((with_reducible refine Im.bite_f ?_ ?_); (next => exact zd))
               | (with_reducible refine Im.byl ?_)
               | ((with_reducible refine Im.vget ByteArray.empty ?_ ?_ ?_); (next => exact zd); (next => exact zd))
               | ((with_reducible refine Im.vget (0 : Int) ?_ ?_ ?_); (next => exact zd); (next => exact zd))
               | ((with_reducible refine Im.vget false ?_ ?_ ?_); (next => exact zd); (next => exact zd))
               | ((with_reducible refine Im.call (impl_NameOk_1.vi hG ?_ _) ?_ (fun r hr => ?_)); (next => omega); (next => exact zr))
               | ((with_reducible refine ih1 _ ⟨_, _, _⟩ _ ?_ ?_); (next => exact zo); exact zr)
               | exact zm | exact zx | fail)
           all_goals skip)
         exact zr)
      | exact zm | exact zx | fail)
  all_goals skip
end Go.Proofs.YtbfbomcfmgdpkaaGreatDoor.VI

end
section
namespace Go.Proofs.YtbfbomcfmgdpkaaGreatDoor.VI
open Go Go.RowKit Go.Proofs.YtbfbomcfmgdpkaaGreatDoor.G Go.Proofs.YtbfbomcfmgdpkaaGreatDoorW.PrintWords
set_option maxRecDepth 100000
set_option maxHeartbeats 16000000
theorem strings_HasPrefix.vi {m : Nat} {Gv : FuncId → Option (List VV → Option (VV × List VV))} (hG : Base Gv) (hm : 1 ≤ m) (a0 : ByteArray) (a1 : ByteArray) : Im (fun r => (.bool r, [])) (strings_HasPrefix.f a0 a1) (callv Tryz.prog ti keep Gv m 60 [.str a0, .str a1]) := by
  obtain ⟨m, rfl⟩ : ∃ m', m = m' + 1 := ⟨m - 1, by omega⟩
  rw [show callv Tryz.prog ti keep Gv (m + 1) 60 _ = _ from callv_given ((hG 60 (by decide) (by decide) (by decide) (by decide) (by decide) (by decide) (by decide) (by decide) (by decide) (by decide) (by decide) (by decide) (by decide) (by decide) (by decide) (by decide) (by decide)).trans rfl)]
  intro r h
  rw [show strings_HasPrefix.gv [.str a0, .str a1] = (strings_HasPrefix.f a0 a1).map (fun r => (.bool r, [])) from rfl, h]
  rfl
theorem strings_Split.vi {m : Nat} {Gv : FuncId → Option (List VV → Option (VV × List VV))} (hG : Base Gv) (hm : 1 ≤ m) (a0 : ByteArray) (a1 : ByteArray) : Im (fun r => (.ow 9 1 (r.map VV.str), [])) (strings_Split.f a0 a1) (callv Tryz.prog ti keep Gv m 58 [.str a0, .str a1]) := by
  obtain ⟨m, rfl⟩ : ∃ m', m = m' + 1 := ⟨m - 1, by omega⟩
  rw [show callv Tryz.prog ti keep Gv (m + 1) 58 _ = _ from callv_given ((hG 58 (by decide) (by decide) (by decide) (by decide) (by decide) (by decide) (by decide) (by decide) (by decide) (by decide) (by decide) (by decide) (by decide) (by decide) (by decide) (by decide) (by decide)).trans rfl)]
  intro r h
  rw [show strings_Split.gv [.str a0, .str a1] = (strings_Split.f a0 a1).map (fun r => (.ow 9 1 (r.map VV.str), [])) from rfl, h]
  rfl
theorem strings_TrimPrefix.vi {m : Nat} {Gv : FuncId → Option (List VV → Option (VV × List VV))} (hG : Base Gv) (hm : 1 ≤ m) (a0 : ByteArray) (a1 : ByteArray) : Im (fun r => (.str r, [])) (strings_TrimPrefix.f a0 a1) (callv Tryz.prog ti keep Gv m 91 [.str a0, .str a1]) := by
  obtain ⟨m, rfl⟩ : ∃ m', m = m' + 1 := ⟨m - 1, by omega⟩
  rw [show callv Tryz.prog ti keep Gv (m + 1) 91 _ = _ from callv_given ((hG 91 (by decide) (by decide) (by decide) (by decide) (by decide) (by decide) (by decide) (by decide) (by decide) (by decide) (by decide) (by decide) (by decide) (by decide) (by decide) (by decide) (by decide)).trans rfl)]
  intro r h
  rw [show strings_TrimPrefix.gv [.str a0, .str a1] = (strings_TrimPrefix.f a0 a1).map (fun r => (.str r, [])) from rfl, h]
  rfl
end Go.Proofs.YtbfbomcfmgdpkaaGreatDoor.VI

end
section
namespace Go.Proofs.YtbfbomcfmgdpkaaGreatDoor.VI
open Go Go.RowKit Go.Proofs.YtbfbomcfmgdpkaaGreatDoor.G Go.Proofs.YtbfbomcfmgdpkaaGreatDoorW.PrintWords
set_option maxRecDepth 100000
set_option maxHeartbeats 16000000
attribute [local irreducible] bite obind vget
theorem impl_NameOk.vi {k m : Nat} {Gv : FuncId → Option (List VV → Option (VV × List VV))} (hG : Base Gv) (hm : k + 4 ≤ m) (a0 : ByteArray) : Im (fun r => (.bool r, [])) (impl_NameOk.f k a0) (callv Tryz.prog ti keep Gv m 49 [.str a0]) := by
  obtain ⟨m, rfl⟩ : ∃ m', m = m' + 1 := ⟨m - 1, by omega⟩
  rw [show callv Tryz.prog ti keep Gv (m + 1) 49 _ = _ from callv_enter ((hG 49 (by decide) (by decide) (by decide) (by decide) (by decide) (by decide) (by decide) (by decide) (by decide) (by decide) (by decide) (by decide) (by decide) (by decide) (by decide) (by decide) (by decide)).trans rfl) Tryz.func49 (by kernel_rfl) rfl rfl]
  unfold impl_NameOk.f
  repeat' first
    | (with_reducible first | exact Im.none | refine Im.ite (fun h => ?_) (fun h => ?_) | refine Im.sbind ?_)
    | ((conv => arg 3; whnf); first
      | ((with_reducible refine Im.fin ?_); exact zr)
      | ((with_reducible refine Im.anyo ?_ ?_); (next => kernel_rfl))
      | ((with_reducible refine Im.bite_t ?_ ?_); (next => exact zq))
      | ((with_reducible refine Im.bite_f ?_ ?_); (next => exact zq))
      | ((with_reducible refine Im.bite_t ?_ ?_); (next => exact zd))
      | ((with_reducible refine Im.must ?_ ?_); (next => exact zd))
      | ((with_reducible refine Im.bite_f ?_ ?_); (next => exact zd))
      | (with_reducible refine Im.byl ?_)
      | ((with_reducible refine Im.vget ByteArray.empty ?_ ?_ ?_); (next => exact zd); (next => exact zd))
      | ((with_reducible refine Im.vget (0 : Int) ?_ ?_ ?_); (next => exact zd); (next => exact zd))
      | ((with_reducible refine Im.vget false ?_ ?_ ?_); (next => exact zd); (next => exact zd))
      | ((with_reducible refine Im.call (impl_all__impl_NameOk_1.vi hG ?_ _) ?_ (fun r hr => ?_)); (next => omega); (next => exact zr))
      | ((with_reducible refine Im.call (strings_HasPrefix.vi hG ?_ _ _) ?_ (fun r hr => ?_)); (next => omega); (next => exact zr))
      | ((with_reducible refine Im.call (strings_Split.vi hG ?_ _ _) ?_ (fun r hr => ?_)); (next => omega); (next => exact zr))
      | ((with_reducible refine Im.call (strings_TrimPrefix.vi hG ?_ _ _) ?_ (fun r hr => ?_)); (next => omega); (next => exact zr))
      | ((with_reducible refine Im.loop (S := fun s : ByteArray × Bool × List ByteArray × Int × Int => [.str s.1, .un, .un, .bool s.2.1, .un, .un, .un, .un, .un, .un, .ow 9 1 (s.2.2.1.map VV.str), .int s.2.2.2.1, .int s.2.2.2.2, .un, .un, .un, .un, .un, .un, .un, .un, .un, .un, .un, .un, .un, .un, .un, .un, .un, .un, .un, .un, .un, .un, .un, .un, .un, .un, .un]) (L := fun k s => impl_NameOk.l0 k s.1 s.2.1 s.2.2.1 s.2.2.2.1 s.2.2.2.2) _ ?_ ?_ _ _ ⟨_, _, _, _, _⟩ _ (Nat.le_refl _) zo ?_)
         (next => intro s; rfl)
         (next =>
           intro k1 M1 ⟨x0, x3, x10, x11, x12⟩ hk1 hM1 ih1
           conv => arg 2; simp only [impl_NameOk.l0]
           repeat' first
             | (with_reducible first | exact Im.none | refine Im.ite (fun h => ?_) (fun h => ?_) | refine Im.sbind ?_)
             | ((conv => arg 3; whnf); first
               | ((with_reducible refine Im.fin ?_); exact zr)
               | ((with_reducible refine Im.anyo ?_ ?_); (next => kernel_rfl))
               | ((with_reducible refine Im.bite_t ?_ ?_); (next => exact zq))
               | ((with_reducible refine Im.bite_f ?_ ?_); (next => exact zq))
               | ((with_reducible refine Im.bite_t ?_ ?_); (next => exact zd))
               | ((with_reducible refine Im.must ?_ ?_); (next => exact zd))
               | ((with_reducible refine Im.bite_f ?_ ?_); (next => exact zd))
               | (with_reducible refine Im.byl ?_)
               | ((with_reducible refine Im.vget ByteArray.empty ?_ ?_ ?_); (next => exact zd); (next => exact zd))
               | ((with_reducible refine Im.vget (0 : Int) ?_ ?_ ?_); (next => exact zd); (next => exact zd))
               | ((with_reducible refine Im.vget false ?_ ?_ ?_); (next => exact zd); (next => exact zd))
               | ((with_reducible refine Im.call (impl_all__impl_NameOk_1.vi hG ?_ _) ?_ (fun r hr => ?_)); (next => omega); (next => exact zr))
               | ((with_reducible refine Im.call (strings_HasPrefix.vi hG ?_ _ _) ?_ (fun r hr => ?_)); (next => omega); (next => exact zr))
               | ((with_reducible refine Im.call (strings_Split.vi hG ?_ _ _) ?_ (fun r hr => ?_)); (next => omega); (next => exact zr))
               | ((with_reducible refine Im.call (strings_TrimPrefix.vi hG ?_ _ _) ?_ (fun r hr => ?_)); (next => omega); (next => exact zr))
               | ((with_reducible refine ih1 _ ⟨_, _, _, _, _⟩ _ ?_ ?_); (next => exact zo); exact zr)
               | exact zm | exact zx | fail)
           all_goals skip)
         exact zr)
      | exact zm | exact zx | fail)
  all_goals skip
end Go.Proofs.YtbfbomcfmgdpkaaGreatDoor.VI

end
section
namespace Go.Proofs.YtbfbomcfmgdpkaaGreatDoor.VI
open Go Go.RowKit Go.Proofs.YtbfbomcfmgdpkaaGreatDoor.G Go.Proofs.YtbfbomcfmgdpkaaGreatDoorW.PrintWords
set_option maxRecDepth 100000
set_option maxHeartbeats 16000000
set_option linter.unusedVariables false
set_option linter.unusedSimpArgs false
theorem impl_Place.vi {m : Nat} {Gv : FuncId → Option (List VV → Option (VV × List VV))} (hG : Base Gv) (hL35 : Gv 35 = some impl_Place.gv) (hm : 1 ≤ m) (a0 : ByteArray) (a1 : Int) : Im (fun r => (.tu [.int r.1, .int r.2], [])) (impl_Place.f a0 a1) (callv Tryz.prog ti keep Gv m 35 [.str a0, .int a1]) := by
  obtain ⟨m, rfl⟩ : ∃ m', m = m' + 1 := ⟨m - 1, by omega⟩
  rw [show callv Tryz.prog ti keep Gv (m + 1) 35 _ = _ from callv_given hL35]
  intro r h
  rw [show impl_Place.gv [.str a0, .int a1] = (impl_Place.f a0 a1).map (fun r => (.tu [.int r.1, .int r.2], [])) from rfl, h]
  rfl
end Go.Proofs.YtbfbomcfmgdpkaaGreatDoor.VI

end
