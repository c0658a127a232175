/- A part of the proof that the law FnPick answers true at every input that its row speaks of. Conditions: the row's own. -/
import Derived.Test.YtoidompkofomjaaGreatDoorOpZ
import Derived.Test.YtoidompkofomjaaGreatDoorKFnPick0
import Derived.Test.YtoidompkofomjaaGreatDoorMFnPick0
import Derived.Test.YtoidompkofomjaaGreatDoorVMore
import Derived.Lib.Strings
import Derived.Laws.BitsLemmas
import Derived.Lib.ItoaNum
section
namespace Go.Proofs.YtoidompkofomjaaGreatDoor.G
open Go.RowKit Go.Proofs.YtoidompkofomjaaGreatDoorW.PrintWords Go.Proofs.YtoidompkofomjaaGreatDoorW.PrintLast Go.Proofs.YtoidompkofomjaaGreatDoorW.PrintMore
attribute [local go_sem] max2_int min2_int max_two min_two max_three min_three max_four min_four
attribute [local go_sem high] Go.Proofs.YtoidompkofomjaaGreatDoor.G.str_gtr Go.Proofs.YtoidompkofomjaaGreatDoor.G.str_leq Go.Proofs.YtoidompkofomjaaGreatDoor.G.str_geq
set_option linter.unusedVariables false
set_option linter.unusedSimpArgs false
def spec_l02Version.T5 : Bool × List (List Nat × List Nat) := (true, [([], []), ([0], [0]), ([], []), ([], []), ([2, 3], [2, 3]), ([4], [4]), ([1, 5, 4], [1, 5]), ([0, 1, 2, 3, 4, 5, 6], []), ([7, 6, 6, 0, 1, 2, 3, 4, 5, 6], [6, 7])])
def spec_l02Version.B5 : List Nat := [0, 1, 0, 0, 12, 28, 63, 127, 255]
theorem spec_l02Version.tab5 : rtab .any (opsOf Tryz.f56 5) = spec_l02Version.T5 := by kernel_rfl
theorem spec_l02Version.bits5 : waitsOk spec_l02Version.T5.2 spec_l02Version.B5 = true := by kernel_rfl
def spec_l02Version.T10 : Bool × List (List Nat × List Nat) := (true, [([], []), ([0], [0]), ([], []), ([], []), ([2, 3], [2, 3]), ([4], [4]), ([1, 5, 4], [1, 5]), ([0, 1, 2, 3, 4, 5, 6], []), ([7, 6, 6, 0, 1, 2, 3, 4, 5, 6], [6, 7])])
def spec_l02Version.B10 : List Nat := [0, 1, 0, 0, 12, 28, 63, 127, 255]
theorem spec_l02Version.tab10 : rtab .any (opsOf Tryz.f56 10) = spec_l02Version.T10 := by kernel_rfl
theorem spec_l02Version.bits10 : waitsOk spec_l02Version.T10.2 spec_l02Version.B10 = true := by kernel_rfl
set_option maxHeartbeats 8000000 in
set_option maxRecDepth 100000 in
theorem spec_l02Version.calls (k : Nat) (g : Nat) (s0_0 : List Int) (s0_1 : Int) (s0_2 : Int) (r1 : Int) (r2 : Int) (r3 : Int) (r4 : List ByteArray) (r5 : Int) (r6 : Int) (w0 w : World) (hI : IsS55 w0 w g s0_0 s0_1 s0_2) (hB : Below w0.heap.size w0 w) (h : spec_l02Version.f k s0_0 s0_1 s0_2 = some (r1, r2, r3, r4, r5, r6)) :
  Calls Tryz.prog 56 #[.pointer (some ⟨g, 0, none⟩)] w fun e w' => ∃ v3_ : Value, e = .returned (.agg #[.int .i64 r1, .int .i64 r2, .int .i64 r3, v3_]) ∧ Kd.R Kd.string 9 w' w.heap.size (fun _ => True) v3_ r4 ∧ IsS55 w0 w' g s0_0 r5 r6 ∧ Below w0.heap.size w0 w' ∧ KeepBut w w' g none := by
 have hu34 := Tryz.underlying34
 have HI0 := Aside0.mk hI
 have HK := Aside0.mk (KeepBut.refl w g none)
 have HL := Aside0.mk hB.size
 clear hI
 have HW0 := Aside0.mk hB.size
 have HB := Aside0.mk hB
 clear hB
 have H : ((spec_l01PickInt.f s0_0 s0_1 s0_2 (([0, 1, 1, 2, 10] : List Int))).bind fun bt177 => ((spec_l01PickInt.f s0_0 bt177.2.1 bt177.2.2 (([0, 0, 1, 2, 12] : List Int))).bind fun bt183 => ((spec_l01PickInt.f s0_0 bt183.2.1 bt183.2.2 (([0, 0, 1, 3, 9] : List Int))).bind fun bt189 => ((spec_l01Once.f s0_0 bt189.2.1 bt189.2.2 4).bind fun bt193 => (if bt193.1 = true then ((spec_l01Pick.f s0_0 bt193.2.1 bt193.2.2 (([(⟨#[114, 99]⟩ : ByteArray), (⟨#[98, 101, 116, 97]⟩ : ByteArray), (⟨#[49]⟩ : ByteArray), (⟨#[48]⟩ : ByteArray), (⟨#[120, 45, 121]⟩ : ByteArray)] : List ByteArray))).bind fun bt199 => ((some (([bt199.1] : List ByteArray) : List ByteArray)).bind fun y202 => ((spec_l01Once.f s0_0 bt199.2.1 bt199.2.2 2).bind fun bt205 => (if bt205.1 = true then ((spec_l01Pick.f s0_0 bt205.2.1 bt205.2.2 (([(⟨#[49]⟩ : ByteArray), (⟨#[50]⟩ : ByteArray), (⟨#[49, 48]⟩ : ByteArray), (⟨#[97]⟩ : ByteArray)] : List ByteArray))).bind fun bt211 => (if y202.length < 8796093022208 then (spec_l02Version.j0 k s0_0 bt211.2.1 bt211.2.2 bt177.1 bt183.1 bt189.1 (y202 ++ [bt211.1])) else (none))) else (spec_l02Version.j0 k s0_0 bt205.2.1 bt205.2.2 bt177.1 bt183.1 bt189.1 y202))))) else (spec_l02Version.j0 k s0_0 bt193.2.1 bt193.2.2 bt177.1 bt183.1 bt189.1 ([] : List ByteArray))))))) = some (r1, r2, r3, r4, r5, r6) := h
 clear h
 obtain ⟨y174, hy174⟩ : ∃ y_ : List Int, y_ = (([0, 1, 1, 2, 10] : List Int)) := ⟨_, rfl⟩
 first | replace H := hb1 H (show (spec_l01PickInt.f s0_0 s0_1 s0_2 y174) = _ from (by rw [hy174])) | replace H := hb1 (hb2 H) (show (spec_l01PickInt.f s0_0 s0_1 s0_2 y174) = _ from (by rw [hy174]))
 have Ny174 := Aside0.mk hy174
 clear hy174
 replace H := Option.bind_eq_some_iff.mp H
 obtain ⟨⟨t177, t178, t179⟩, A20, H⟩ := H
 try dsimp only at H
 have A2 := Aside0.mk A20
 clear A20
 obtain ⟨y180, hy180⟩ : ∃ y_ : List Int, y_ = (([0, 0, 1, 2, 12] : List Int)) := ⟨_, rfl⟩
 first | replace H := hb1 H (show (spec_l01PickInt.f s0_0 t178 t179 y180) = _ from (by rw [hy180])) | replace H := hb1 (hb2 H) (show (spec_l01PickInt.f s0_0 t178 t179 y180) = _ from (by rw [hy180]))
 have Ny180 := Aside0.mk hy180
 clear hy180
 replace H := Option.bind_eq_some_iff.mp H
 obtain ⟨⟨t183, t184, t185⟩, A30, H⟩ := H
 try dsimp only at H
 have A3 := Aside0.mk A30
 clear A30
 obtain ⟨y186, hy186⟩ : ∃ y_ : List Int, y_ = (([0, 0, 1, 3, 9] : List Int)) := ⟨_, rfl⟩
 first | replace H := hb1 H (show (spec_l01PickInt.f s0_0 t184 t185 y186) = _ from (by rw [hy186])) | replace H := hb1 (hb2 H) (show (spec_l01PickInt.f s0_0 t184 t185 y186) = _ from (by rw [hy186]))
 have Ny186 := Aside0.mk hy186
 clear hy186
 replace H := Option.bind_eq_some_iff.mp H
 obtain ⟨⟨t189, t190, t191⟩, A40, H⟩ := H
 try dsimp only at H
 have A4 := Aside0.mk A40
 clear A40
 replace H := Option.bind_eq_some_iff.mp H
 obtain ⟨⟨t193, t194, t195⟩, A50, H⟩ := H
 try dsimp only at H
 have A5 := Aside0.mk A50
 clear A50
 have HC6 := Aside0.mk H
 clear H
 go_enter Tryz.func56, Tryz.ntmps56
 go_upto_if 15 with (first | ((with_reducible refine gate_dst (N := 2) rfl ?_); refine box_event ?hg (N := 2) ?hd (cs := #[.int .i64 0, .int .i64 0, .int .i64 0, .slice none 0 0]) (t := 34) ?hr ?_; (case hd => rfl); (case hg => rfl); (case hr => exact zb18); intro gb173 hg w7 hbox hb; replace HB := Aside0.mk (below_step zb2 hb); have BK173 := Aside0.mk hbox; have GW173 := Aside0.mk ((by rw [hg]; exact (keep_size (w := w) (g := g) (row := none) zb3) : w.heap.size ≤ gb173)); have GE173 := Aside0.mk ((Nat.le_trans HW0.out (by rw [hg]; exact (keep_size (w := w) (g := g) (row := none) zb3) : w.heap.size ≤ gb173) : w0.heap.size ≤ gb173)); replace HK := Aside0.mk (KeepBut.trans zb3 (KeepBut.of_below hb g none) (.inl rfl)); have NB0_173 := Aside0.mk ((by rw [hg]; exact Nat.ne_of_lt (IsS55.lt (show IsS55 w0 _ g s0_0 s0_1 s0_2 from zb1)) : g ≠ gb173)); have NB173_0 := Aside0.mk ((by rw [hg]; exact Nat.ne_of_gt (IsS55.lt (show IsS55 w0 _ g s0_0 s0_1 s0_2 from zb1)) : gb173 ≠ g)); replace HI0 := Aside0.mk (IsS55.below zb1 hb); clear hb hbox hg) | ((with_reducible refine gate_dst (N := 5) rfl ?_); refine Kd.R_lit (Kd.int .i64) _ 3 ?hg (N := 5) ?hd (xs := ([0, 1, 1, 2, 10] : List Int)) (inner := [.int .i64 0, .int .i64 1, .int .i64 1, .int .i64 2, .int .i64 10]) (ok := fun _ => True) (okp := fun _ => True) ?hr ?hp (fun _ hk => hk) trivial (Below.refl _ _) (Nat.le_refl _) zb26 ?_; (case hd => rfl); (case hg => rfl); (case hr => exact zb18); (case hp => exact zb29); intro v175 w8 ho9 hb hg_ hnew_; clear hg_ hnew_; (first | rw [← Ny174.out] at ho9 | (simp only [Int.reduceToNat] at ho9; rw [← Ny174.out] at ho9)); have HO176 := Aside0.mk (Kd.R_lower ho9 (keep_size (w := w) (g := g) (row := none) zb11)); replace BK173 := Aside0.mk (blk_below (g := gb173) (o := .cells #[.int .i64 0, .int .i64 0, .int .i64 0, .slice none 0 0] 34 (0, 0)) (zB BK173.out) hb); replace HK := Aside0.mk (KeepBut.trans zb11 (KeepBut.of_below hb g none) (.inl rfl)); replace HB := Aside0.mk (below_step zb14 hb); replace HI0 := Aside0.mk (IsS55.below zb8 hb); clear hb ho9; obtain ⟨Ao10, co10, eo10⟩ := Kd.R_slice HO176.out; subst eo10) | ((with_reducible refine gate_callee (f := 89) rfl ?_); refine goesL_ (some 6) rfl rfl Tryz.func89 zb17 rfl #[.pointer (some ⟨g, 0, none⟩), .slice Ao10 y174.length co10] rfl zb4 ?_; (with_reducible refine (spec_l01PickInt.calls g s0_0 s0_1 s0_2 _ _ y174 t177 t178 t179 w0 _ ?side1 ?side2 ?side3 ?side4 ?side5 A2.out).mono ?_); (case side1 => exact zb8); (case side2 => exact zb14); (case side3 => repeat (first | exact (Kd.R_reads' HO176.out).2.2 | (with_reducible refine Kd.C_alloc ?_ _) | (with_reducible refine Kd.C_drewN ?_ _) | (with_reducible refine Kd.C_drew ?_))); (case side4 => exact (Kd.R_reads' HO176.out).2.1); (case side5 => exact far_slice (IsS55.own_ne HI0.out HO176.out zb22)); rintro e w11 ⟨rfl, hi, hb, hk⟩; refine ⟨_, rfl, ?_⟩; replace BK173 := Aside0.mk (KeepBut.blk hk (g' := gb173) (o := .cells #[.int .i64 0, .int .i64 0, .int .i64 0, .slice none 0 0] 34 (0, 0)) (zB BK173.out) NB173_0.out zb26); replace HO176 := Aside0.mk (Kd.R_mono (Kd.R_keep (IsS55.apart (show IsS55 w0 _ g s0_0 s0_1 s0_2 from zb8) (zR HO176.out) zb22) hk (fun _ h => h.2)) (fun _ h => h.1)); replace HK := Aside0.mk (KeepBut.trans zb11 hk (.inl rfl)); replace HB := Aside0.mk hb; replace HI0 := Aside0.mk hi; (try clear hb); (try clear hb2); (try clear hk); (try clear hi)) | ((with_reducible refine gate_dst (N := 8) rfl ?_); refine Kd.R_lit (Kd.int .i64) _ 3 ?hg (N := 8) ?hd (xs := ([0, 0, 1, 2, 12] : List Int)) (inner := [.int .i64 0, .int .i64 0, .int .i64 1, .int .i64 2, .int .i64 12]) (ok := fun _ => True) (okp := fun _ => True) ?hr ?hp (fun _ hk => hk) trivial (Below.refl _ _) (Nat.le_refl _) zb26 ?_; (case hd => rfl); (case hg => rfl); (case hr => exact zb18); (case hp => exact zb29); intro v181 w12 ho13 hb hg_ hnew_; clear hg_ hnew_; (first | rw [← Ny180.out] at ho13 | (simp only [Int.reduceToNat] at ho13; rw [← Ny180.out] at ho13)); have HO182 := Aside0.mk (Kd.R_lower (Kd.R_new' ho13 (Kd.R_lt (zR HO176.out))) (keep_size (w := w) (g := g) (row := none) zb11)); replace HO176 := Aside0.mk (Kd.R_elder' (zR HO176.out) (Kd.R_base ho13) hb); replace BK173 := Aside0.mk (blk_below (g := gb173) (o := .cells #[.int .i64 0, .int .i64 0, .int .i64 0, .slice none 0 0] 34 (0, 0)) (zB BK173.out) hb); replace HK := Aside0.mk (KeepBut.trans zb11 (KeepBut.of_below hb g none) (.inl rfl)); replace HB := Aside0.mk (below_step zb14 hb); replace HI0 := Aside0.mk (IsS55.below zb8 hb); clear hb ho13; obtain ⟨Ao14, co14, eo14⟩ := Kd.R_slice HO182.out; subst eo14) | ((with_reducible refine gate_callee (f := 89) rfl ?_); refine goesL_ (some 9) rfl rfl Tryz.func89 zb17 rfl #[.pointer (some ⟨g, 0, none⟩), .slice Ao14 y180.length co14] rfl zb4 ?_; (with_reducible refine (spec_l01PickInt.calls g s0_0 t178 t179 _ _ y180 t183 t184 t185 w0 _ ?side1 ?side2 ?side3 ?side4 ?side5 A3.out).mono ?_); (case side1 => exact zb8); (case side2 => exact zb14); (case side3 => repeat (first | exact (Kd.R_reads' HO182.out).2.2 | (with_reducible refine Kd.C_alloc ?_ _) | (with_reducible refine Kd.C_drewN ?_ _) | (with_reducible refine Kd.C_drew ?_))); (case side4 => exact (Kd.R_reads' HO182.out).2.1); (case side5 => exact far_slice (IsS55.own_ne HI0.out HO182.out zb22)); rintro e w15 ⟨rfl, hi, hb, hk⟩; refine ⟨_, rfl, ?_⟩; replace BK173 := Aside0.mk (KeepBut.blk hk (g' := gb173) (o := .cells #[.int .i64 0, .int .i64 0, .int .i64 0, .slice none 0 0] 34 (0, 0)) (zB BK173.out) NB173_0.out zb26); replace HO176 := Aside0.mk (Kd.R_mono (Kd.R_keep (IsS55.apart (show IsS55 w0 _ g s0_0 t178 t179 from zb8) (zR HO176.out) zb22) hk (fun _ h => h.2)) (fun _ h => h.1)); replace HO182 := Aside0.mk (Kd.R_mono (Kd.R_keep (IsS55.apart (show IsS55 w0 _ g s0_0 t178 t179 from zb8) (zR HO182.out) zb22) hk (fun _ h => h.2)) (fun _ h => h.1)); replace HK := Aside0.mk (KeepBut.trans zb11 hk (.inl rfl)); replace HB := Aside0.mk hb; replace HI0 := Aside0.mk hi; (try clear hb); (try clear hb2); (try clear hk); (try clear hi)) | ((with_reducible refine gate_dst (N := 11) rfl ?_); refine Kd.R_lit (Kd.int .i64) _ 3 ?hg (N := 11) ?hd (xs := ([0, 0, 1, 3, 9] : List Int)) (inner := [.int .i64 0, .int .i64 0, .int .i64 1, .int .i64 3, .int .i64 9]) (ok := fun _ => True) (okp := fun _ => True) ?hr ?hp (fun _ hk => hk) trivial (Below.refl _ _) (Nat.le_refl _) zb26 ?_; (case hd => rfl); (case hg => rfl); (case hr => exact zb18); (case hp => exact zb29); intro v187 w16 ho17 hb hg_ hnew_; clear hg_ hnew_; (first | rw [← Ny186.out] at ho17 | (simp only [Int.reduceToNat] at ho17; rw [← Ny186.out] at ho17)); have HO188 := Aside0.mk (Kd.R_lower (Kd.R_new' (Kd.R_new' ho17 (Kd.R_lt (zR HO176.out))) (Kd.R_lt (zR HO182.out))) (keep_size (w := w) (g := g) (row := none) zb11)); replace HO176 := Aside0.mk (Kd.R_elder' (zR HO176.out) (Kd.R_base ho17) hb); replace HO182 := Aside0.mk (Kd.R_elder' (zR HO182.out) (Kd.R_base ho17) hb); replace BK173 := Aside0.mk (blk_below (g := gb173) (o := .cells #[.int .i64 0, .int .i64 0, .int .i64 0, .slice none 0 0] 34 (0, 0)) (zB BK173.out) hb); replace HK := Aside0.mk (KeepBut.trans zb11 (KeepBut.of_below hb g none) (.inl rfl)); replace HB := Aside0.mk (below_step zb14 hb); replace HI0 := Aside0.mk (IsS55.below zb8 hb); clear hb ho17; obtain ⟨Ao18, co18, eo18⟩ := Kd.R_slice HO188.out; subst eo18) | ((with_reducible refine gate_callee (f := 89) rfl ?_); refine goesL_ (some 12) rfl rfl Tryz.func89 zb17 rfl #[.pointer (some ⟨g, 0, none⟩), .slice Ao18 y186.length co18] rfl zb4 ?_; (with_reducible refine (spec_l01PickInt.calls g s0_0 t184 t185 _ _ y186 t189 t190 t191 w0 _ ?side1 ?side2 ?side3 ?side4 ?side5 A4.out).mono ?_); (case side1 => exact zb8); (case side2 => exact zb14); (case side3 => repeat (first | exact (Kd.R_reads' HO188.out).2.2 | (with_reducible refine Kd.C_alloc ?_ _) | (with_reducible refine Kd.C_drewN ?_ _) | (with_reducible refine Kd.C_drew ?_))); (case side4 => exact (Kd.R_reads' HO188.out).2.1); (case side5 => exact far_slice (IsS55.own_ne HI0.out HO188.out zb22)); rintro e w19 ⟨rfl, hi, hb, hk⟩; refine ⟨_, rfl, ?_⟩; replace BK173 := Aside0.mk (KeepBut.blk hk (g' := gb173) (o := .cells #[.int .i64 0, .int .i64 0, .int .i64 0, .slice none 0 0] 34 (0, 0)) (zB BK173.out) NB173_0.out zb26); replace HO176 := Aside0.mk (Kd.R_mono (Kd.R_keep (IsS55.apart (show IsS55 w0 _ g s0_0 t184 t185 from zb8) (zR HO176.out) zb22) hk (fun _ h => h.2)) (fun _ h => h.1)); replace HO182 := Aside0.mk (Kd.R_mono (Kd.R_keep (IsS55.apart (show IsS55 w0 _ g s0_0 t184 t185 from zb8) (zR HO182.out) zb22) hk (fun _ h => h.2)) (fun _ h => h.1)); replace HO188 := Aside0.mk (Kd.R_mono (Kd.R_keep (IsS55.apart (show IsS55 w0 _ g s0_0 t184 t185 from zb8) (zR HO188.out) zb22) hk (fun _ h => h.2)) (fun _ h => h.1)); replace HK := Aside0.mk (KeepBut.trans zb11 hk (.inl rfl)); replace HB := Aside0.mk hb; replace HI0 := Aside0.mk hi; (try clear hb); (try clear hb2); (try clear hk); (try clear hi)) | ((with_reducible refine gate_dst (N := 3) rfl ?_); refine box_event ?hg (N := 3) ?hd (cs := #[.int .i64 0, .int .i64 0, .int .i64 0, .slice none 0 0]) (t := 34) ?hr ?_; (case hd => rfl); (case hg => rfl); (case hr => exact zb18); intro gb192 hg w20 hbox hb; replace HO176 := Aside0.mk (Kd.R_below (zR HO176.out) hb); replace HO182 := Aside0.mk (Kd.R_below (zR HO182.out) hb); replace HO188 := Aside0.mk (Kd.R_below (zR HO188.out) hb); replace HB := Aside0.mk (below_step zb14 hb); have BK192 := Aside0.mk hbox; have GW192 := Aside0.mk ((by rw [hg]; exact (keep_size (w := w) (g := g) (row := none) zb11) : w.heap.size ≤ gb192)); have GE192 := Aside0.mk ((Nat.le_trans HW0.out (by rw [hg]; exact (keep_size (w := w) (g := g) (row := none) zb11) : w.heap.size ≤ gb192) : w0.heap.size ≤ gb192)); replace HK := Aside0.mk (KeepBut.trans zb11 (KeepBut.of_below hb g none) (.inl rfl)); have NB173_192 := Aside0.mk ((by rw [hg]; exact Nat.ne_of_lt (blk_lt (g := gb173) (o := .cells #[.int .i64 0, .int .i64 0, .int .i64 0, .slice none 0 0] 34 (0, 0)) (zB BK173.out)) : gb173 ≠ gb192)); have NB192_173 := Aside0.mk ((by rw [hg]; exact Nat.ne_of_gt (blk_lt (g := gb173) (o := .cells #[.int .i64 0, .int .i64 0, .int .i64 0, .slice none 0 0] 34 (0, 0)) (zB BK173.out)) : gb192 ≠ gb173)); replace BK173 := Aside0.mk (blk_below (g := gb173) (o := .cells #[.int .i64 0, .int .i64 0, .int .i64 0, .slice none 0 0] 34 (0, 0)) (zB BK173.out) hb); have NB0_192 := Aside0.mk ((by rw [hg]; exact Nat.ne_of_lt (IsS55.lt (show IsS55 w0 _ g s0_0 t190 t191 from zb8)) : g ≠ gb192)); have NB192_0 := Aside0.mk ((by rw [hg]; exact Nat.ne_of_gt (IsS55.lt (show IsS55 w0 _ g s0_0 t190 t191 from zb8)) : gb192 ≠ g)); replace HI0 := Aside0.mk (IsS55.below zb8 hb); clear hb hbox hg; have hnb21 := NB192_173.out; have hnc21 := NB173_192.out; have hnb22 := NB192_0.out; have hnc22 := NB0_192.out; have hcz23_0 : w20.cell? ⟨gb192, 0, none⟩ = some (.int .i64 0) := (blk_cell BK192.out 0).trans rfl; have hcz23_1 : w20.cell? ⟨gb192, 1, none⟩ = some (.int .i64 0) := (blk_cell BK192.out 1).trans rfl; have hcz23_2 : w20.cell? ⟨gb192, 2, none⟩ = some (.int .i64 0) := (blk_cell BK192.out 2).trans rfl; have hcz23_3 : w20.cell? ⟨gb192, 3, none⟩ = some (.slice none 0 0) := (blk_cell BK192.out 3).trans rfl; have hfz23_0 := blk_frozen BK192.out 0; have hfz23_1 := blk_frozen BK192.out 1; have hfz23_2 := blk_frozen BK192.out 2; have hfz23_3 := blk_frozen BK192.out 3) | ((with_reducible refine gate_callee (f := 35) rfl ?_); refine goesL_ (some 15) rfl rfl Tryz.func35 zb17 rfl #[.pointer (some ⟨g, 0, none⟩), .int .i64 4] rfl zb4 ?_; (with_reducible refine (spec_l01Once.calls g s0_0 t190 t191 4 t193 t194 t195 w0 _ ?side1 ?side2 A5.out).mono ?_); (case side1 => exact zb0); (case side2 => exact zb6); rintro e w24 ⟨rfl, hi, hb, hk⟩; refine ⟨_, rfl, ?_⟩; replace BK173 := Aside0.mk (KeepBut.blk hk (g' := gb173) (o := .cells #[.int .i64 0, .int .i64 0, .int .i64 0, .slice none 0 0] 34 (0, 0)) (by (with_reducible repeat (first | refine bN_ ?_ _ | refine bD_ ?_ | refine bA_ ?_ _)); refine blk_far ?_ NB173_192.out _; (with_reducible repeat (first | refine bN_ ?_ _ | refine bD_ ?_ | refine bA_ ?_ _)); refine blk_far ?_ NB173_192.out _; (with_reducible repeat (first | refine bN_ ?_ _ | refine bD_ ?_ | refine bA_ ?_ _)); refine blk_far ?_ NB173_192.out _; (with_reducible repeat (first | refine bN_ ?_ _ | refine bD_ ?_ | refine bA_ ?_ _)); refine blk_far ?_ NB173_192.out _; (with_reducible repeat (first | refine bN_ ?_ _ | refine bD_ ?_ | refine bA_ ?_ _)); exact BK173.out) NB173_0.out zb26); replace HO176 := Aside0.mk (Kd.R_mono (Kd.R_keep (IsS55.apart (show IsS55 w0 _ g s0_0 t190 t191 from zb0) (zR (Kd.R_mono (Kd.R_far (p := ⟨gb192, 3, none⟩) (Kd.R_far (p := ⟨gb192, 2, none⟩) (Kd.R_far (p := ⟨gb192, 1, none⟩) (Kd.R_far (p := ⟨gb192, 0, none⟩) (Kd.R_types HO176.out BK192.out zb22) (fun _ hk => hk.2) (.int .i64 t177)) (fun _ hk => hk.2) (.int .i64 t183)) (fun _ hk => hk.2) (.int .i64 t189)) (fun _ hk => hk.2) (.slice none 0 0)) (fun _ h_ => h_.1))) zb22) hk (fun _ h => h.2)) (fun _ h => h.1)); replace HO182 := Aside0.mk (Kd.R_mono (Kd.R_keep (IsS55.apart (show IsS55 w0 _ g s0_0 t190 t191 from zb0) (zR (Kd.R_mono (Kd.R_far (p := ⟨gb192, 3, none⟩) (Kd.R_far (p := ⟨gb192, 2, none⟩) (Kd.R_far (p := ⟨gb192, 1, none⟩) (Kd.R_far (p := ⟨gb192, 0, none⟩) (Kd.R_types HO182.out BK192.out zb22) (fun _ hk => hk.2) (.int .i64 t177)) (fun _ hk => hk.2) (.int .i64 t183)) (fun _ hk => hk.2) (.int .i64 t189)) (fun _ hk => hk.2) (.slice none 0 0)) (fun _ h_ => h_.1))) zb22) hk (fun _ h => h.2)) (fun _ h => h.1)); replace HO188 := Aside0.mk (Kd.R_mono (Kd.R_keep (IsS55.apart (show IsS55 w0 _ g s0_0 t190 t191 from zb0) (zR (Kd.R_mono (Kd.R_far (p := ⟨gb192, 3, none⟩) (Kd.R_far (p := ⟨gb192, 2, none⟩) (Kd.R_far (p := ⟨gb192, 1, none⟩) (Kd.R_far (p := ⟨gb192, 0, none⟩) (Kd.R_types HO188.out BK192.out zb22) (fun _ hk => hk.2) (.int .i64 t177)) (fun _ hk => hk.2) (.int .i64 t183)) (fun _ hk => hk.2) (.int .i64 t189)) (fun _ hk => hk.2) (.slice none 0 0)) (fun _ h_ => h_.1))) zb22) hk (fun _ h => h.2)) (fun _ h => h.1)); replace BK192 := Aside0.mk (KeepBut.blk hk (g' := gb192) (o := .cells #[.int .i64 t177, .int .i64 t183, .int .i64 t189, .slice none 0 0] 34 (0, 0)) (by (with_reducible repeat (first | refine bN_ ?_ _ | refine bD_ ?_ | refine bA_ ?_ _)); refine blk_put (cs := #[.int .i64 t177, .int .i64 t183, .int .i64 t189, .slice none 0 0]) ?_ 3 _ rfl; (with_reducible repeat (first | refine bN_ ?_ _ | refine bD_ ?_ | refine bA_ ?_ _)); refine blk_put (cs := #[.int .i64 t177, .int .i64 t183, .int .i64 0, .slice none 0 0]) ?_ 2 _ rfl; (with_reducible repeat (first | refine bN_ ?_ _ | refine bD_ ?_ | refine bA_ ?_ _)); refine blk_put (cs := #[.int .i64 t177, .int .i64 0, .int .i64 0, .slice none 0 0]) ?_ 1 _ rfl; (with_reducible repeat (first | refine bN_ ?_ _ | refine bD_ ?_ | refine bA_ ?_ _)); refine blk_put (cs := #[.int .i64 0, .int .i64 0, .int .i64 0, .slice none 0 0]) ?_ 0 _ rfl; (with_reducible repeat (first | refine bN_ ?_ _ | refine bD_ ?_ | refine bA_ ?_ _)); exact BK192.out) NB192_0.out zb26); replace HK := Aside0.mk (KeepBut.trans zb5 hk (.inl rfl)); replace HB := Aside0.mk hb; replace HI0 := Aside0.mk hi; (try clear hb); (try clear hb2); (try clear hk); (try clear hi)))
 (try simp only [Act.put, List.setIfInBounds_toArray, List.set_cons_zero, List.set_cons_succ])
 go_cut [] (fun wc => ∃ (kq : Nat) (x1001_5 : Int) (x1002_5 : Int) (x193003_5 : List ByteArray) (u193003 : Value), Aside0 (spec_l02Version.j0 kq s0_0 x1001_5 x1002_5 t177 t183 t189 x193003_5 = some (r1, r2, r3, r4, r5, r6)) ∧ Aside0 (kq ≤ k) ∧ Aside0 (Kd.R Kd.string 9 wc w.heap.size (fun _ => True) u193003 x193003_5) ∧ Aside0 (wc.heap[gb173]? = some (.cells #[.int .i64 0, .int .i64 0, .int .i64 0, (.slice none 0 0)] 34 (0, 0))) ∧ Aside0 (wc.heap[gb192]? = some (.cells #[.int .i64 t177, .int .i64 t183, .int .i64 t189, u193003] 34 (0, 0))) ∧ Aside0 (IsS55 w0 wc g s0_0 x1001_5 x1002_5) ∧ Aside0 (KeepBut w wc g none) ∧ Aside0 (Below w0.heap.size w0 wc))
 case first =>
  have H := HC6.out
  clear HC6
  by_cases c25 : t193 = true
  ·subst c25
   rw [if_pos rfl] at H
   obtain ⟨y196, hy196⟩ : ∃ y_ : List ByteArray, y_ = (([(⟨#[114, 99]⟩ : ByteArray), (⟨#[98, 101, 116, 97]⟩ : ByteArray), (⟨#[49]⟩ : ByteArray), (⟨#[48]⟩ : ByteArray), (⟨#[120, 45, 121]⟩ : ByteArray)] : List ByteArray)) := ⟨_, rfl⟩
   first | replace H := hb1 H (show (spec_l01Pick.f s0_0 t194 t195 y196) = _ from (by rw [hy196])) | replace H := hb1 (hb2 H) (show (spec_l01Pick.f s0_0 t194 t195 y196) = _ from (by rw [hy196]))
   have Ny196 := Aside0.mk hy196
   clear hy196
   replace H := Option.bind_eq_some_iff.mp H
   obtain ⟨⟨t199, t200, t201⟩, A260, H⟩ := H
   try dsimp only at H
   have A26 := Aside0.mk A260
   clear A260
   obtain ⟨y202, hy202⟩ : ∃ y_ : List ByteArray, y_ = (([t199] : List ByteArray)) := ⟨_, rfl⟩
   replace H : ((spec_l01Once.f s0_0 t200 t201 2).bind fun bt205 => (if bt205.1 = true then ((spec_l01Pick.f s0_0 bt205.2.1 bt205.2.2 (([(⟨#[49]⟩ : ByteArray), (⟨#[50]⟩ : ByteArray), (⟨#[49, 48]⟩ : ByteArray), (⟨#[97]⟩ : ByteArray)] : List ByteArray))).bind fun bt211 => (if y202.length < 8796093022208 then (spec_l02Version.j0 k s0_0 bt211.2.1 bt211.2.2 t177 t183 t189 (y202 ++ [bt211.1])) else (none))) else (spec_l02Version.j0 k s0_0 bt205.2.1 bt205.2.2 t177 t183 t189 y202))) = some (r1, r2, r3, r4, r5, r6) := by first | (rw [hy202]; with_reducible exact H) | (have H2_ := (Option.bind_some _ _).symm.trans H; rw [hy202]; with_reducible exact H2_) | (have H2_ := (Option.bind_some _ _).symm.trans H; with_reducible exact H2_) | with_reducible exact H | (rw [hy202]; exact H) | exact H
   have Ny202 := Aside0.mk hy202
   clear hy202
   replace H := Option.bind_eq_some_iff.mp H
   obtain ⟨⟨t205, t206, t207⟩, A270, H⟩ := H
   try dsimp only at H
   have A27 := Aside0.mk A270
   clear A270
   by_cases c28 : t205 = true
   ·subst c28
    rw [if_pos rfl] at H
    obtain ⟨y208, hy208⟩ : ∃ y_ : List ByteArray, y_ = (([(⟨#[49]⟩ : ByteArray), (⟨#[50]⟩ : ByteArray), (⟨#[49, 48]⟩ : ByteArray), (⟨#[97]⟩ : ByteArray)] : List ByteArray)) := ⟨_, rfl⟩
    first | replace H := hb1 H (show (spec_l01Pick.f s0_0 t206 t207 y208) = _ from (by rw [hy208])) | replace H := hb1 (hb2 H) (show (spec_l01Pick.f s0_0 t206 t207 y208) = _ from (by rw [hy208]))
    have Ny208 := Aside0.mk hy208
    clear hy208
    replace H := Option.bind_eq_some_iff.mp H
    obtain ⟨⟨t211, t212, t213⟩, A290, H⟩ := H
    try dsimp only at H
    have A29 := Aside0.mk A290
    clear A290
    by_cases c30 : y202.length < 8796093022208
    ·rw [if_pos c30] at H
     have LMc30 := Aside0.mk c30
     clear c30
     obtain ⟨y214, hy214⟩ : ∃ y_ : List ByteArray, y_ = (y202 ++ [t211]) := ⟨_, rfl⟩
     replace H : (spec_l02Version.j0 k s0_0 t212 t213 t177 t183 t189 y214) = some (r1, r2, r3, r4, r5, r6) := by first | (rw [hy214]; with_reducible exact H) | (have H2_ := (Option.bind_some _ _).symm.trans H; rw [hy214]; with_reducible exact H2_) | (have H2_ := (Option.bind_some _ _).symm.trans H; with_reducible exact H2_) | with_reducible exact H | (rw [hy214]; exact H) | exact H
     have Ny214 := Aside0.mk hy214
     clear hy214
     have H' := Aside0.mk H
     clear H
     try go_wp2_with (first | ((with_reducible refine gate_dst (N := 17) rfl ?_); refine Kd.R_lit Kd.string _ 9 ?hg (N := 17) ?hd (xs := ([(⟨#[114, 99]⟩ : ByteArray), (⟨#[98, 101, 116, 97]⟩ : ByteArray), (⟨#[49]⟩ : ByteArray), (⟨#[48]⟩ : ByteArray), (⟨#[120, 45, 121]⟩ : ByteArray)] : List ByteArray)) (inner := [.string (⟨#[114, 99]⟩ : ByteArray), .string (⟨#[98, 101, 116, 97]⟩ : ByteArray), .string (⟨#[49]⟩ : ByteArray), .string (⟨#[48]⟩ : ByteArray), .string (⟨#[120, 45, 121]⟩ : ByteArray)]) (ok := fun _ => True) (okp := fun _ => True) ?hr ?hp (fun _ hk => hk) trivial (Below.refl _ _) (Nat.le_refl _) zb26 ?_; (case hd => rfl); (case hg => rfl); (case hr => exact zb18); (case hp => exact zb15); intro v197 w31 ho32 hb hg_ hnew_; clear hg_ hnew_; (first | rw [← Ny196.out] at ho32 | (simp only [Int.reduceToNat] at ho32; rw [← Ny196.out] at ho32)); replace HO176 := Aside0.mk (Kd.R_below (zR HO176.out) hb); replace HO182 := Aside0.mk (Kd.R_below (zR HO182.out) hb); replace HO188 := Aside0.mk (Kd.R_below (zR HO188.out) hb); have HO198 := Aside0.mk (Kd.R_lower ho32 (keep_size (w := w) (g := g) (row := none) zb5)); replace BK173 := Aside0.mk (blk_below (g := gb173) (o := .cells #[.int .i64 0, .int .i64 0, .int .i64 0, .slice none 0 0] 34 (0, 0)) (zB BK173.out) hb); replace BK192 := Aside0.mk (blk_below (g := gb192) (o := .cells #[.int .i64 t177, .int .i64 t183, .int .i64 t189, .slice none 0 0] 34 (0, 0)) (zB BK192.out) hb); replace HK := Aside0.mk (KeepBut.trans zb5 (KeepBut.of_below hb g none) (.inl rfl)); replace HB := Aside0.mk (below_step zb6 hb); replace HI0 := Aside0.mk (IsS55.below zb0 hb); clear hb ho32; obtain ⟨Ao33, co33, eo33⟩ := Kd.R_slice HO198.out; subst eo33) | ((with_reducible refine gate_callee (f := 36) rfl ?_); refine goesL_ (some 18) rfl rfl Tryz.func36 zb17 rfl #[.pointer (some ⟨g, 0, none⟩), .slice Ao33 y196.length co33] rfl zb4 ?_; (with_reducible refine (spec_l01Pick.calls g s0_0 t194 t195 _ _ y196 t199 t200 t201 w0 _ ?side1 ?side2 ?side3 ?side4 ?side5 A26.out).mono ?_); (case side1 => exact zb0); (case side2 => exact zb6); (case side3 => exact zb34); (case side4 => exact (Kd.R_reads' HO198.out).2.1); (case side5 => exact far_slice (IsS55.own_ne HI0.out HO198.out zb22)); rintro e w34 ⟨rfl, hi, hb, hk⟩; refine ⟨_, rfl, ?_⟩; replace BK173 := Aside0.mk (KeepBut.blk hk (g' := gb173) (o := .cells #[.int .i64 0, .int .i64 0, .int .i64 0, .slice none 0 0] 34 (0, 0)) (zB BK173.out) NB173_0.out zb26); replace HO176 := Aside0.mk (Kd.R_mono (Kd.R_keep (IsS55.apart (show IsS55 w0 _ g s0_0 t194 t195 from zb0) (zR HO176.out) zb22) hk (fun _ h => h.2)) (fun _ h => h.1)); replace HO182 := Aside0.mk (Kd.R_mono (Kd.R_keep (IsS55.apart (show IsS55 w0 _ g s0_0 t194 t195 from zb0) (zR HO182.out) zb22) hk (fun _ h => h.2)) (fun _ h => h.1)); replace HO188 := Aside0.mk (Kd.R_mono (Kd.R_keep (IsS55.apart (show IsS55 w0 _ g s0_0 t194 t195 from zb0) (zR HO188.out) zb22) hk (fun _ h => h.2)) (fun _ h => h.1)); replace BK192 := Aside0.mk (KeepBut.blk hk (g' := gb192) (o := .cells #[.int .i64 t177, .int .i64 t183, .int .i64 t189, .slice none 0 0] 34 (0, 0)) (zB BK192.out) NB192_0.out zb26); replace HO198 := Aside0.mk (Kd.R_mono (Kd.R_keep (IsS55.apart (show IsS55 w0 _ g s0_0 t194 t195 from zb0) (zR HO198.out) zb22) hk (fun _ h => h.2)) (fun _ h => h.1)); replace HK := Aside0.mk (KeepBut.trans zb5 hk (.inl rfl)); replace HB := Aside0.mk hb; replace HI0 := Aside0.mk hi; (try clear hb); (try clear hb2); (try clear hk); (try clear hi)) | ((with_reducible refine gate_dst (N := 19) rfl ?_); refine Kd.R_lit Kd.string _ 9 ?hg (N := 19) ?hd (xs := ([t199] : List ByteArray)) (inner := [.string t199]) (ok := fun _ => True) (okp := fun _ => True) ?hr ?hp (fun _ hk => hk) trivial (Below.refl _ _) (Nat.le_refl _) zb26 ?_; (case hd => rfl); (case hg => rfl); (case hr => exact zb18); (case hp => exact zb15); intro v203 w35 ho36 hb hg_ hnew_; clear hg_ hnew_; (first | rw [← Ny202.out] at ho36 | (simp only [Int.reduceToNat] at ho36; rw [← Ny202.out] at ho36)); replace HO176 := Aside0.mk (Kd.R_below (zR HO176.out) hb); replace HO182 := Aside0.mk (Kd.R_below (zR HO182.out) hb); replace HO188 := Aside0.mk (Kd.R_below (zR HO188.out) hb); have HO204 := Aside0.mk (Kd.R_lower (Kd.R_new' ho36 (Kd.R_lt (zR HO198.out))) (keep_size (w := w) (g := g) (row := none) zb5)); replace HO198 := Aside0.mk (Kd.R_elder' (zR HO198.out) (Kd.R_base ho36) hb); replace BK173 := Aside0.mk (blk_below (g := gb173) (o := .cells #[.int .i64 0, .int .i64 0, .int .i64 0, .slice none 0 0] 34 (0, 0)) (zB BK173.out) hb); replace BK192 := Aside0.mk (blk_below (g := gb192) (o := .cells #[.int .i64 t177, .int .i64 t183, .int .i64 t189, .slice none 0 0] 34 (0, 0)) (zB BK192.out) hb); replace HK := Aside0.mk (KeepBut.trans zb5 (KeepBut.of_below hb g none) (.inl rfl)); replace HB := Aside0.mk (below_step zb6 hb); replace HI0 := Aside0.mk (IsS55.below zb0 hb); clear hb ho36; obtain ⟨Ao37, co37, eo37⟩ := Kd.R_slice HO204.out; subst eo37; have hnb38 := NB192_173.out; have hnc38 := NB173_192.out; have hnb39 := NB192_0.out; have hnc39 := NB0_192.out; have hcz40_0 : w35.cell? ⟨gb192, 0, none⟩ = some (.int .i64 t177) := (blk_cell BK192.out 0).trans rfl; have hcz40_1 : w35.cell? ⟨gb192, 1, none⟩ = some (.int .i64 t183) := (blk_cell BK192.out 1).trans rfl; have hcz40_2 : w35.cell? ⟨gb192, 2, none⟩ = some (.int .i64 t189) := (blk_cell BK192.out 2).trans rfl; have hcz40_3 : w35.cell? ⟨gb192, 3, none⟩ = some (.slice none 0 0) := (blk_cell BK192.out 3).trans rfl; have hfz40_0 := blk_frozen BK192.out 0; have hfz40_1 := blk_frozen BK192.out 1; have hfz40_2 := blk_frozen BK192.out 2; have hfz40_3 := blk_frozen BK192.out 3) | ((with_reducible refine gate_callee (f := 35) rfl ?_); refine goesL_ (some 22) rfl rfl Tryz.func35 zb17 rfl #[.pointer (some ⟨g, 0, none⟩), .int .i64 2] rfl zb4 ?_; (with_reducible refine (spec_l01Once.calls g s0_0 t200 t201 2 true t206 t207 w0 _ ?side1 ?side2 A27.out).mono ?_); (case side1 => exact zb0); (case side2 => exact zb6); rintro e w41 ⟨rfl, hi, hb, hk⟩; refine ⟨_, rfl, ?_⟩; replace BK173 := Aside0.mk (KeepBut.blk hk (g' := gb173) (o := .cells #[.int .i64 0, .int .i64 0, .int .i64 0, .slice none 0 0] 34 (0, 0)) zb21 NB173_0.out zb26); replace HO176 := Aside0.mk (Kd.R_mono (Kd.R_keep (IsS55.apart (show IsS55 w0 _ g s0_0 t200 t201 from zb0) (zR (Kd.R_mono (Kd.R_far (p := ⟨gb192, 3, none⟩) (Kd.R_types HO176.out BK192.out zb22) (fun _ hk => hk.2) (.slice Ao37 y202.length co37)) (fun _ h_ => h_.1))) zb22) hk (fun _ h => h.2)) (fun _ h => h.1)); replace HO182 := Aside0.mk (Kd.R_mono (Kd.R_keep (IsS55.apart (show IsS55 w0 _ g s0_0 t200 t201 from zb0) (zR (Kd.R_mono (Kd.R_far (p := ⟨gb192, 3, none⟩) (Kd.R_types HO182.out BK192.out zb22) (fun _ hk => hk.2) (.slice Ao37 y202.length co37)) (fun _ h_ => h_.1))) zb22) hk (fun _ h => h.2)) (fun _ h => h.1)); replace HO188 := Aside0.mk (Kd.R_mono (Kd.R_keep (IsS55.apart (show IsS55 w0 _ g s0_0 t200 t201 from zb0) (zR (Kd.R_mono (Kd.R_far (p := ⟨gb192, 3, none⟩) (Kd.R_types HO188.out BK192.out zb22) (fun _ hk => hk.2) (.slice Ao37 y202.length co37)) (fun _ h_ => h_.1))) zb22) hk (fun _ h => h.2)) (fun _ h => h.1)); replace HO198 := Aside0.mk (Kd.R_mono (Kd.R_keep (IsS55.apart (show IsS55 w0 _ g s0_0 t200 t201 from zb0) (zR (Kd.R_mono (Kd.R_far (p := ⟨gb192, 3, none⟩) (Kd.R_types HO198.out BK192.out zb22) (fun _ hk => hk.2) (.slice Ao37 y202.length co37)) (fun _ h_ => h_.1))) zb22) hk (fun _ h => h.2)) (fun _ h => h.1)); replace HO204 := Aside0.mk (Kd.R_mono (Kd.R_keep (IsS55.apart (show IsS55 w0 _ g s0_0 t200 t201 from zb0) (zR (Kd.R_mono (Kd.R_far (p := ⟨gb192, 3, none⟩) (Kd.R_types HO204.out BK192.out zb22) (fun _ hk => hk.2) (.slice Ao37 y202.length co37)) (fun _ h_ => h_.1))) zb22) hk (fun _ h => h.2)) (fun _ h => h.1)); replace BK192 := Aside0.mk (KeepBut.blk hk (g' := gb192) (o := .cells #[.int .i64 t177, .int .i64 t183, .int .i64 t189, .slice Ao37 y202.length co37] 34 (0, 0)) zb30 NB192_0.out zb26); replace HK := Aside0.mk (KeepBut.trans zb5 hk (.inl rfl)); replace HB := Aside0.mk hb; replace HI0 := Aside0.mk hi; (try clear hb); (try clear hb2); (try clear hk); (try clear hi)))
     replace HO176 := Aside0.mk (Kd.R_drew HO176.out)
     replace HO182 := Aside0.mk (Kd.R_drew HO182.out)
     replace HO188 := Aside0.mk (Kd.R_drew HO188.out)
     replace HO198 := Aside0.mk (Kd.R_drew HO198.out)
     replace HO204 := Aside0.mk (Kd.R_drew HO204.out)
     replace BK173 := Aside0.mk (blk_drew BK173.out)
     replace BK192 := Aside0.mk (blk_drew BK192.out)
     replace HI0 := Aside0.mk (IsS55.drew HI0.out)
     replace HK := Aside0.mk (keep_drew HK.out)
     replace HB := Aside0.mk (below_drew1 HB.out)
     refine start_ (n := 9) (S := fun w' => w'.cell? ⟨gb192, 0, none⟩ = some (.int .i64 t177) ∧ w'.cell? ⟨gb192, 1, none⟩ = some (.int .i64 t183) ∧ w'.cell? ⟨gb192, 2, none⟩ = some (.int .i64 t189) ∧ w'.cell? ⟨gb192, 3, none⟩ = some (.slice Ao37 y202.length co37)) (ds := [8]) #[false, false, false, false, false, false, false, false, false] zb17 rfl rfl ⟨(blk_cell BK192.out 0).trans rfl, (blk_cell BK192.out 1).trans rfl, (blk_cell BK192.out 2).trans rfl, (blk_cell BK192.out 3).trans rfl⟩ (fun hHeld => ?_); refine with_tabW spec_l02Version.tab5 spec_l02Version.bits5 (fun HT_ HW_ => ?_)
     generalize w41.drew = w42 at HO176 HO182 HO188 HO198 HO204 BK173 BK192 HI0 HK HB hHeld ⊢
     refine pz 0 23 ?_
     refine pz 2 25 ?_
     refine take_ (i := 1) (N := some 24) (v := ?_) (a' := ?_) #[true, true, true, false, false, false, false, false, false] rfl rfl (take_ofW HT_.out HW_.out zb17) (fun _ _ _ h => h) (Or.inl ⟨by rfl, ?_⟩) hHeld ?_ ?_
     rotate_left
     ·rintro w' ⟨s0, s1, s2, s3⟩
      go_simp
      with_reducible rfl
     rotate_left
     ·simp only [Act.put, List.setIfInBounds_toArray, List.set_cons_zero, List.set_cons_succ, i64_w, i32_w]
      rfl
     refine one_ (i := 3) (N := some 26) #[true, true, true, true, false, false, false, false, false] rfl rfl (one_of HT_.out zb17) zb22 (fun K hK => ?_)
     refine Kd.R_lit_step Kd.string _ 9 ?hg (N := 26) ?hd (xs := ([(⟨#[49]⟩ : ByteArray), (⟨#[50]⟩ : ByteArray), (⟨#[49, 48]⟩ : ByteArray), (⟨#[97]⟩ : ByteArray)] : List ByteArray)) (inner := [.string (⟨#[49]⟩ : ByteArray), .string (⟨#[50]⟩ : ByteArray), .string (⟨#[49, 48]⟩ : ByteArray), .string (⟨#[97]⟩ : ByteArray)]) (ok := fun _ => True) (okp := fun _ => True) ?hr ?hp (fun _ hk => hk) trivial (Below.refl _ _) (Nat.le_refl _) zb26 ?_; (case hd => rfl); (case hg => rfl); (case hr => exact zb18); (case hp => exact zb15)
     intro v209 w43 ho44 hb hg_ hnew_
     clear hg_ hnew_
     (first | rw [← Ny208.out] at ho44 | (simp only [Int.reduceToNat] at ho44; rw [← Ny208.out] at ho44))
     replace HO176 := Aside0.mk (Kd.R_below (zR HO176.out) hb)
     replace HO182 := Aside0.mk (Kd.R_below (zR HO182.out) hb)
     replace HO188 := Aside0.mk (Kd.R_below (zR HO188.out) hb)
     have HO210 := Aside0.mk (Kd.R_lower (Kd.R_new' (Kd.R_new' ho44 (Kd.R_lt (zR HO198.out))) (Kd.R_lt (zR HO204.out))) (keep_size (w := w) (g := g) (row := none) zb5))
     replace HO198 := Aside0.mk (Kd.R_elder' (zR HO198.out) (Kd.R_base ho44) hb)
     replace HO204 := Aside0.mk (Kd.R_elder' (zR HO204.out) (Kd.R_base ho44) hb)
     replace BK173 := Aside0.mk (blk_below (g := gb173) (o := .cells #[.int .i64 0, .int .i64 0, .int .i64 0, .slice none 0 0] 34 (0, 0)) (zB BK173.out) hb)
     replace BK192 := Aside0.mk (blk_below (g := gb192) (o := .cells #[.int .i64 t177, .int .i64 t183, .int .i64 t189, .slice Ao37 y202.length co37] 34 (0, 0)) (zB BK192.out) hb)
     replace HK := Aside0.mk (KeepBut.trans zb5 (KeepBut.of_below hb g none) (.inl rfl))
     replace HB := Aside0.mk (below_step zb6 hb)
     replace HI0 := Aside0.mk (IsS55.below zb0 hb)
     clear hb ho44
     obtain ⟨Ao45, co45, eo45⟩ := Kd.R_slice HO210.out
     (first | subst eo45 | (injection eo45 with f1_ f2_ f3_; have f4_ := f1_.symm; have f5_ := f3_.symm; clear f1_ f2_ f3_; subst f4_; subst f5_))
     refine hK.out _ _ ⟨(blk_cell BK192.out 0).trans rfl, (blk_cell BK192.out 1).trans rfl, (blk_cell BK192.out 2).trans rfl, (blk_cell BK192.out 3).trans rfl⟩ (fun hHeld => ?_)
     clear hK K
     refine norm_ (a' := ?_) ?_ ?_
     rotate_left
     ·show Act.put _ (some 26) _ = _
      simp only [Act.put, List.setIfInBounds_toArray, List.set_cons_zero, List.set_cons_succ, i64_w, i32_w]
      rfl
     refine one_ (i := 4) (N := some 27) #[true, true, true, true, true, false, false, false, false] rfl rfl (one_of HT_.out zb17) zb22 (fun K hK => ?_)
     refine goes_ Tryz.func36 zb17 rfl #[.pointer (some ⟨g, 0, none⟩), .slice Ao45 y208.length co45] (by rfl) rfl rfl zb4 ?_
     with_reducible refine (spec_l01Pick.calls g s0_0 t206 t207 _ _ y208 t211 t212 t213 w0 _ ?side1 ?side2 ?side3 ?side4 ?side5 A29.out).mono ?_
     (case side1 => exact zb0)
     (case side2 => exact zb6)
     (case side3 => repeat (first | exact (Kd.R_reads' HO210.out).2.2 | (with_reducible refine Kd.C_alloc ?_ _) | (with_reducible refine Kd.C_drewN ?_ _) | (with_reducible refine Kd.C_drew ?_)))
     (case side4 => exact (Kd.R_reads' HO210.out).2.1)
     (case side5 => exact far_slice (IsS55.own_ne HI0.out HO210.out zb22))
     rintro e w46 ⟨rfl, hi, hb, hk⟩
     refine ⟨_, rfl, ?_⟩
     replace BK173 := Aside0.mk (KeepBut.blk hk (g' := gb173) (o := .cells #[.int .i64 0, .int .i64 0, .int .i64 0, .slice none 0 0] 34 (0, 0)) (zB BK173.out) NB173_0.out zb26)
     replace HO176 := Aside0.mk (Kd.R_mono (Kd.R_keep (IsS55.apart (show IsS55 w0 _ g s0_0 t206 t207 from zb0) (zR HO176.out) zb22) hk (fun _ h => h.2)) (fun _ h => h.1))
     replace HO182 := Aside0.mk (Kd.R_mono (Kd.R_keep (IsS55.apart (show IsS55 w0 _ g s0_0 t206 t207 from zb0) (zR HO182.out) zb22) hk (fun _ h => h.2)) (fun _ h => h.1))
     replace HO188 := Aside0.mk (Kd.R_mono (Kd.R_keep (IsS55.apart (show IsS55 w0 _ g s0_0 t206 t207 from zb0) (zR HO188.out) zb22) hk (fun _ h => h.2)) (fun _ h => h.1))
     replace BK192 := Aside0.mk (KeepBut.blk hk (g' := gb192) (o := .cells #[.int .i64 t177, .int .i64 t183, .int .i64 t189, .slice Ao37 y202.length co37] 34 (0, 0)) (zB BK192.out) NB192_0.out zb26)
     replace HO198 := Aside0.mk (Kd.R_mono (Kd.R_keep (IsS55.apart (show IsS55 w0 _ g s0_0 t206 t207 from zb0) (zR HO198.out) zb22) hk (fun _ h => h.2)) (fun _ h => h.1))
     replace HO204 := Aside0.mk (Kd.R_mono (Kd.R_keep (IsS55.apart (show IsS55 w0 _ g s0_0 t206 t207 from zb0) (zR HO204.out) zb22) hk (fun _ h => h.2)) (fun _ h => h.1))
     replace HO210 := Aside0.mk (Kd.R_mono (Kd.R_keep (IsS55.apart (show IsS55 w0 _ g s0_0 t206 t207 from zb0) (zR HO210.out) zb22) hk (fun _ h => h.2)) (fun _ h => h.1))
     replace HK := Aside0.mk (KeepBut.trans zb5 hk (.inl rfl))
     replace HB := Aside0.mk hb
     replace HI0 := Aside0.mk hi
     (try clear hb)
     (try clear hb2)
     (try clear hk)
     (try clear hi)
     refine hK.out _ _ ⟨(blk_cell BK192.out 0).trans rfl, (blk_cell BK192.out 1).trans rfl, (blk_cell BK192.out 2).trans rfl, (blk_cell BK192.out 3).trans rfl⟩ (fun hHeld => ?_)
     clear hK K
     refine norm_ (a' := ?_) ?_ ?_
     rotate_left
     ·show Act.put _ (some 27) _ = _
      simp only [Act.put, List.setIfInBounds_toArray, List.set_cons_zero, List.set_cons_succ, i64_w, i32_w]
      rfl
     refine one_ (i := 5) (N := some 28) #[true, true, true, true, true, true, false, false, false] rfl rfl (one_of HT_.out zb17) zb22 (fun K hK => ?_)
     refine value_ (w1 := ?_) (v := ?_) (by rfl) rfl ?_ ?_
     rotate_left 2
     ·go_simp
      constructor
      ·rfl
      ·rfl
     refine hK.out _ _ ⟨(blk_cell (blk_alloc BK192.out _) 0).trans rfl, (blk_cell (blk_alloc BK192.out _) 1).trans rfl, (blk_cell (blk_alloc BK192.out _) 2).trans rfl, (blk_cell (blk_alloc BK192.out _) 3).trans rfl⟩ (fun hHeld => ?_)
     clear hK K
     refine norm_ (a' := ?_) ?_ ?_
     rotate_left
     ·show Act.put _ (some 28) _ = _
      simp only [Act.put, List.setIfInBounds_toArray, List.set_cons_zero, List.set_cons_succ, i64_w, i32_w]
      rfl
     refine one_ (i := 6) (N := some 29) #[true, true, true, true, true, true, true, false, false] rfl rfl (one_of HT_.out zb17) zb22 (fun K hK => ?_)
     refine Kd.R_append_step Kd.string w.heap.size (by rfl) (.tmp 24) (.tmp 28) 24 9 (.string ⟨#[]⟩) 16 rfl Tryz.underlying24 info9 rfl zb22 zb35 (.slice Ao37 y202.length co37) y202 t211 [.string t211] (fun k_ => some k_ ≠ (.slice Ao33 y196.length co33 : Value).ownBlock ∧ some k_ ≠ (.slice Ao45 y208.length co45 : Value).ownBlock) (fun _ => False) rfl rfl ?aP (fun _ hk => hk.elim) ?aF ?aO (Below.refl _ _) ?aS ?aL ?_
     (case aP => exact rfl)
     (case aF => exact (fun k_ hk => ⟨Kd.fresh' (Kd.R_lt (zR HO198.out)) k_ hk, Kd.fresh' (Kd.R_lt (zR HO210.out)) k_ hk⟩))
     (case aO => (with_reducible repeat (first | apply Kd.R_alloc | apply Kd.R_drewN | apply Kd.R_drew)); exact Kd.R_mono HO204.out (fun _ hk => ⟨hk.1.2, hk.2⟩))
     (case aS => exact (keep_size (w := w) (g := g) (row := none) zb5))
     (case aL => have := LMc30.out; omega)
     intro v215 w47 ho hb hg hat
     rw [← Ny214.out] at ho
     replace BK173 := Aside0.mk (blk_grown (g := gb173) (o := .cells #[.int .i64 0, .int .i64 0, .int .i64 0, .slice none 0 0] 34 (0, 0)) (zB BK173.out) hg (Kd.R_ne HO204.out BK173.out zb22))
     replace HO176 := Aside0.mk (Kd.R_over' (zR HO176.out) (Kd.R_typed (zR HO204.out)) zb22 hg)
     replace HO182 := Aside0.mk (Kd.R_over' (zR HO182.out) (Kd.R_typed (zR HO204.out)) zb22 hg)
     replace HO188 := Aside0.mk (Kd.R_over' (zR HO188.out) (Kd.R_typed (zR HO204.out)) zb22 hg)
     replace BK192 := Aside0.mk (blk_grown (g := gb192) (o := .cells #[.int .i64 t177, .int .i64 t183, .int .i64 t189, .slice Ao37 y202.length co37] 34 (0, 0)) (zB BK192.out) hg (Kd.R_ne HO204.out BK192.out zb22))
     replace HO198 := Aside0.mk (Kd.R_after (ok := (fun k_ => some k_ ≠ (.slice Ao45 y208.length co45 : Value).ownBlock)) (by (with_reducible repeat (first | apply Kd.R_alloc | apply Kd.R_drewN | apply Kd.R_drew)); exact Kd.R_mono HO198.out (fun _ hk => ⟨hk.2, hk.1.2⟩)) hg hat)
     replace HO210 := Aside0.mk (Kd.R_after (ok := (fun k_ => some k_ ≠ (.slice Ao33 y196.length co33 : Value).ownBlock)) (by (with_reducible repeat (first | apply Kd.R_alloc | apply Kd.R_drewN | apply Kd.R_drew)); exact Kd.R_mono HO210.out (fun _ hk => ⟨hk.1.2, hk.2⟩)) hg hat)
     replace HB := Aside0.mk (below_weaken zb6 HL.out hb)
     replace HI0 := Aside0.mk (IsS55.grown zb0 hg (IsS55.own_ne HI0.out HO204.out zb22))
     replace HK := Aside0.mk (KeepBut.trans zb5 (KeepBut.of_grown hg g) (Kd.R_base2 HO204.out))
     have HO216 := Aside0.mk ho
     clear HO204 ho hb hg hat
     obtain ⟨Ao48, co48, eo48⟩ := Kd.R_slice HO216.out
     (first | subst eo48 | (injection eo48 with f1_ f2_ f3_; have f4_ := f1_.symm; have f5_ := f3_.symm; clear f1_ f2_ f3_; subst f4_; subst f5_))
     refine hK.out _ _ ⟨(blk_cell BK192.out 0).trans rfl, (blk_cell BK192.out 1).trans rfl, (blk_cell BK192.out 2).trans rfl, (blk_cell BK192.out 3).trans rfl⟩ (fun hHeld => ?_)
     clear hK K
     refine norm_ (a' := ?_) ?_ ?_
     rotate_left
     ·show Act.put _ (some 29) _ = _
      simp only [Act.put, List.setIfInBounds_toArray, List.set_cons_zero, List.set_cons_succ, i64_w, i32_w]
      rfl
     refine pz 7 30 ?_
     refine last_ (i := 8) (N := none) #[true, true, true, true, true, true, true, true, true] rfl rfl (one_of HT_.out zb17) zb22 (fun K hK => ?_)
     have hs49 : w47.cell? ⟨gb192, 3, none⟩ = some (.slice Ao37 y202.length co37) := (blk_cell BK192.out 3).trans rfl
     have hfs49 := blk_frozen BK192.out 3
     have hns49_0 := NB173_192.out
     have hms49_0 := NB192_173.out
     refine skip_ (w1 := ?_) (by rfl) rfl ?_ ?_
     rotate_left
     ·go_simp
      rfl
     refine hK.out _ _ ?_
     clear hK K
     refine done_ (done_of HT_.out zb17) ?_
     try go_wp2
     go_meet
     case rel => exact ⟨_, (t212), (t213), (y214), (.slice Ao48 y214.length co48), H', ⟨zb31⟩, ⟨(zR (Kd.R_mono (Kd.R_far (p := ⟨gb192, 3, none⟩) (Kd.R_types HO216.out BK192.out zb22) (fun _ hk => hk.2) (.slice Ao48 y214.length co48)) (fun _ hk => trivial)))⟩, ⟨zb21⟩, ⟨(by (with_reducible repeat (first | refine bN_ ?_ _ | refine bD_ ?_ | refine bA_ ?_ _)); refine blk_put (cs := #[.int .i64 t177, .int .i64 t183, .int .i64 t189, .slice Ao37 y202.length co37]) ?_ 3 _ rfl; (with_reducible repeat (first | refine bN_ ?_ _ | refine bD_ ?_ | refine bA_ ?_ _)); exact BK192.out)⟩, ⟨zb0⟩, ⟨zb5⟩, ⟨zb6⟩⟩
    ·rw [if_neg c30] at H
     exact absurd H zb26
   ·replace c28 := Bool.eq_false_iff.mpr c28
    subst c28
    rw [if_neg (show ¬ (false = true) by decide)] at H
    have H' := Aside0.mk H
    clear H
    go_wp2_with (first | ((with_reducible refine gate_dst (N := 17) rfl ?_); refine Kd.R_lit Kd.string _ 9 ?hg (N := 17) ?hd (xs := ([(⟨#[114, 99]⟩ : ByteArray), (⟨#[98, 101, 116, 97]⟩ : ByteArray), (⟨#[49]⟩ : ByteArray), (⟨#[48]⟩ : ByteArray), (⟨#[120, 45, 121]⟩ : ByteArray)] : List ByteArray)) (inner := [.string (⟨#[114, 99]⟩ : ByteArray), .string (⟨#[98, 101, 116, 97]⟩ : ByteArray), .string (⟨#[49]⟩ : ByteArray), .string (⟨#[48]⟩ : ByteArray), .string (⟨#[120, 45, 121]⟩ : ByteArray)]) (ok := fun _ => True) (okp := fun _ => True) ?hr ?hp (fun _ hk => hk) trivial (Below.refl _ _) (Nat.le_refl _) zb26 ?_; (case hd => rfl); (case hg => rfl); (case hr => exact zb18); (case hp => exact zb15); intro v197 w50 ho51 hb hg_ hnew_; clear hg_ hnew_; (first | rw [← Ny196.out] at ho51 | (simp only [Int.reduceToNat] at ho51; rw [← Ny196.out] at ho51)); replace HO176 := Aside0.mk (Kd.R_below (zR HO176.out) hb); replace HO182 := Aside0.mk (Kd.R_below (zR HO182.out) hb); replace HO188 := Aside0.mk (Kd.R_below (zR HO188.out) hb); have HO198 := Aside0.mk (Kd.R_lower ho51 (keep_size (w := w) (g := g) (row := none) zb5)); replace BK173 := Aside0.mk (blk_below (g := gb173) (o := .cells #[.int .i64 0, .int .i64 0, .int .i64 0, .slice none 0 0] 34 (0, 0)) (zB BK173.out) hb); replace BK192 := Aside0.mk (blk_below (g := gb192) (o := .cells #[.int .i64 t177, .int .i64 t183, .int .i64 t189, .slice none 0 0] 34 (0, 0)) (zB BK192.out) hb); replace HK := Aside0.mk (KeepBut.trans zb5 (KeepBut.of_below hb g none) (.inl rfl)); replace HB := Aside0.mk (below_step zb6 hb); replace HI0 := Aside0.mk (IsS55.below zb0 hb); clear hb ho51; obtain ⟨Ao52, co52, eo52⟩ := Kd.R_slice HO198.out; subst eo52) | ((with_reducible refine gate_callee (f := 36) rfl ?_); refine goesL_ (some 18) rfl rfl Tryz.func36 zb17 rfl #[.pointer (some ⟨g, 0, none⟩), .slice Ao52 y196.length co52] rfl zb4 ?_; (with_reducible refine (spec_l01Pick.calls g s0_0 t194 t195 _ _ y196 t199 t200 t201 w0 _ ?side1 ?side2 ?side3 ?side4 ?side5 A26.out).mono ?_); (case side1 => exact zb0); (case side2 => exact zb6); (case side3 => exact zb34); (case side4 => exact (Kd.R_reads' HO198.out).2.1); (case side5 => exact far_slice (IsS55.own_ne HI0.out HO198.out zb22)); rintro e w53 ⟨rfl, hi, hb, hk⟩; refine ⟨_, rfl, ?_⟩; replace BK173 := Aside0.mk (KeepBut.blk hk (g' := gb173) (o := .cells #[.int .i64 0, .int .i64 0, .int .i64 0, .slice none 0 0] 34 (0, 0)) (zB BK173.out) NB173_0.out zb26); replace HO176 := Aside0.mk (Kd.R_mono (Kd.R_keep (IsS55.apart (show IsS55 w0 _ g s0_0 t194 t195 from zb0) (zR HO176.out) zb22) hk (fun _ h => h.2)) (fun _ h => h.1)); replace HO182 := Aside0.mk (Kd.R_mono (Kd.R_keep (IsS55.apart (show IsS55 w0 _ g s0_0 t194 t195 from zb0) (zR HO182.out) zb22) hk (fun _ h => h.2)) (fun _ h => h.1)); replace HO188 := Aside0.mk (Kd.R_mono (Kd.R_keep (IsS55.apart (show IsS55 w0 _ g s0_0 t194 t195 from zb0) (zR HO188.out) zb22) hk (fun _ h => h.2)) (fun _ h => h.1)); replace BK192 := Aside0.mk (KeepBut.blk hk (g' := gb192) (o := .cells #[.int .i64 t177, .int .i64 t183, .int .i64 t189, .slice none 0 0] 34 (0, 0)) (zB BK192.out) NB192_0.out zb26); replace HO198 := Aside0.mk (Kd.R_mono (Kd.R_keep (IsS55.apart (show IsS55 w0 _ g s0_0 t194 t195 from zb0) (zR HO198.out) zb22) hk (fun _ h => h.2)) (fun _ h => h.1)); replace HK := Aside0.mk (KeepBut.trans zb5 hk (.inl rfl)); replace HB := Aside0.mk hb; replace HI0 := Aside0.mk hi; (try clear hb); (try clear hb2); (try clear hk); (try clear hi)) | ((with_reducible refine gate_dst (N := 19) rfl ?_); refine Kd.R_lit Kd.string _ 9 ?hg (N := 19) ?hd (xs := ([t199] : List ByteArray)) (inner := [.string t199]) (ok := fun _ => True) (okp := fun _ => True) ?hr ?hp (fun _ hk => hk) trivial (Below.refl _ _) (Nat.le_refl _) zb26 ?_; (case hd => rfl); (case hg => rfl); (case hr => exact zb18); (case hp => exact zb15); intro v203 w54 ho55 hb hg_ hnew_; clear hg_ hnew_; (first | rw [← Ny202.out] at ho55 | (simp only [Int.reduceToNat] at ho55; rw [← Ny202.out] at ho55)); replace HO176 := Aside0.mk (Kd.R_below (zR HO176.out) hb); replace HO182 := Aside0.mk (Kd.R_below (zR HO182.out) hb); replace HO188 := Aside0.mk (Kd.R_below (zR HO188.out) hb); have HO204 := Aside0.mk (Kd.R_lower (Kd.R_new' ho55 (Kd.R_lt (zR HO198.out))) (keep_size (w := w) (g := g) (row := none) zb5)); replace HO198 := Aside0.mk (Kd.R_elder' (zR HO198.out) (Kd.R_base ho55) hb); replace BK173 := Aside0.mk (blk_below (g := gb173) (o := .cells #[.int .i64 0, .int .i64 0, .int .i64 0, .slice none 0 0] 34 (0, 0)) (zB BK173.out) hb); replace BK192 := Aside0.mk (blk_below (g := gb192) (o := .cells #[.int .i64 t177, .int .i64 t183, .int .i64 t189, .slice none 0 0] 34 (0, 0)) (zB BK192.out) hb); replace HK := Aside0.mk (KeepBut.trans zb5 (KeepBut.of_below hb g none) (.inl rfl)); replace HB := Aside0.mk (below_step zb6 hb); replace HI0 := Aside0.mk (IsS55.below zb0 hb); clear hb ho55; obtain ⟨Ao56, co56, eo56⟩ := Kd.R_slice HO204.out; subst eo56; have hnb57 := NB192_173.out; have hnc57 := NB173_192.out; have hnb58 := NB192_0.out; have hnc58 := NB0_192.out; have hcz59_0 : w54.cell? ⟨gb192, 0, none⟩ = some (.int .i64 t177) := (blk_cell BK192.out 0).trans rfl; have hcz59_1 : w54.cell? ⟨gb192, 1, none⟩ = some (.int .i64 t183) := (blk_cell BK192.out 1).trans rfl; have hcz59_2 : w54.cell? ⟨gb192, 2, none⟩ = some (.int .i64 t189) := (blk_cell BK192.out 2).trans rfl; have hcz59_3 : w54.cell? ⟨gb192, 3, none⟩ = some (.slice none 0 0) := (blk_cell BK192.out 3).trans rfl; have hfz59_0 := blk_frozen BK192.out 0; have hfz59_1 := blk_frozen BK192.out 1; have hfz59_2 := blk_frozen BK192.out 2; have hfz59_3 := blk_frozen BK192.out 3) | ((with_reducible refine gate_callee (f := 35) rfl ?_); refine goesL_ (some 22) rfl rfl Tryz.func35 zb17 rfl #[.pointer (some ⟨g, 0, none⟩), .int .i64 2] rfl zb4 ?_; (with_reducible refine (spec_l01Once.calls g s0_0 t200 t201 2 false t206 t207 w0 _ ?side1 ?side2 A27.out).mono ?_); (case side1 => exact zb0); (case side2 => exact zb6); rintro e w60 ⟨rfl, hi, hb, hk⟩; refine ⟨_, rfl, ?_⟩; replace BK173 := Aside0.mk (KeepBut.blk hk (g' := gb173) (o := .cells #[.int .i64 0, .int .i64 0, .int .i64 0, .slice none 0 0] 34 (0, 0)) zb21 NB173_0.out zb26); replace HO176 := Aside0.mk (Kd.R_mono (Kd.R_keep (IsS55.apart (show IsS55 w0 _ g s0_0 t200 t201 from zb0) (zR (Kd.R_mono (Kd.R_far (p := ⟨gb192, 3, none⟩) (Kd.R_types HO176.out BK192.out zb22) (fun _ hk => hk.2) (.slice Ao56 y202.length co56)) (fun _ h_ => h_.1))) zb22) hk (fun _ h => h.2)) (fun _ h => h.1)); replace HO182 := Aside0.mk (Kd.R_mono (Kd.R_keep (IsS55.apart (show IsS55 w0 _ g s0_0 t200 t201 from zb0) (zR (Kd.R_mono (Kd.R_far (p := ⟨gb192, 3, none⟩) (Kd.R_types HO182.out BK192.out zb22) (fun _ hk => hk.2) (.slice Ao56 y202.length co56)) (fun _ h_ => h_.1))) zb22) hk (fun _ h => h.2)) (fun _ h => h.1)); replace HO188 := Aside0.mk (Kd.R_mono (Kd.R_keep (IsS55.apart (show IsS55 w0 _ g s0_0 t200 t201 from zb0) (zR (Kd.R_mono (Kd.R_far (p := ⟨gb192, 3, none⟩) (Kd.R_types HO188.out BK192.out zb22) (fun _ hk => hk.2) (.slice Ao56 y202.length co56)) (fun _ h_ => h_.1))) zb22) hk (fun _ h => h.2)) (fun _ h => h.1)); replace HO198 := Aside0.mk (Kd.R_mono (Kd.R_keep (IsS55.apart (show IsS55 w0 _ g s0_0 t200 t201 from zb0) (zR (Kd.R_mono (Kd.R_far (p := ⟨gb192, 3, none⟩) (Kd.R_types HO198.out BK192.out zb22) (fun _ hk => hk.2) (.slice Ao56 y202.length co56)) (fun _ h_ => h_.1))) zb22) hk (fun _ h => h.2)) (fun _ h => h.1)); replace HO204 := Aside0.mk (Kd.R_mono (Kd.R_keep (IsS55.apart (show IsS55 w0 _ g s0_0 t200 t201 from zb0) (zR (Kd.R_mono (Kd.R_far (p := ⟨gb192, 3, none⟩) (Kd.R_types HO204.out BK192.out zb22) (fun _ hk => hk.2) (.slice Ao56 y202.length co56)) (fun _ h_ => h_.1))) zb22) hk (fun _ h => h.2)) (fun _ h => h.1)); replace BK192 := Aside0.mk (KeepBut.blk hk (g' := gb192) (o := .cells #[.int .i64 t177, .int .i64 t183, .int .i64 t189, .slice Ao56 y202.length co56] 34 (0, 0)) zb30 NB192_0.out zb26); replace HK := Aside0.mk (KeepBut.trans zb5 hk (.inl rfl)); replace HB := Aside0.mk hb; replace HI0 := Aside0.mk hi; (try clear hb); (try clear hb2); (try clear hk); (try clear hi)))
    go_meet
    case rel => exact ⟨_, (t206), (t207), (y202), (.slice Ao56 y202.length co56), H', ⟨zb31⟩, ⟨(zR (Kd.R_mono HO204.out (fun _ hk => trivial)))⟩, ⟨(zB BK173.out)⟩, ⟨(zB BK192.out)⟩, ⟨zb0⟩, ⟨zb5⟩, ⟨zb6⟩⟩
  ·replace c25 := Bool.eq_false_iff.mpr c25
   subst c25
   rw [if_neg (show ¬ (false = true) by decide)] at H
   have H' := Aside0.mk H
   clear H
   go_wp2
   go_meet
   case rel => exact ⟨_, (t194), (t195), (([] : List ByteArray)), (.slice none 0 0), H', ⟨zb31⟩, ⟨(by first | exact Kd.R_nil _ _ _ _ _ | exact Kd.N_nil _ _ _ _ _ | exact Kd.V_nil _ _ _ _ _ | exact Kd.Q_nil _ _ _ _ _ | exact Kd.S_nil _ _ _ _ _)⟩, ⟨(zB BK173.out)⟩, ⟨(zB BK192.out)⟩, ⟨zb0⟩, ⟨zb5⟩, ⟨zb6⟩⟩
 case rest =>
  clear HC6
  try clear c2
  try clear p2
  try clear c3
  try clear c5
  try clear c8
  try clear c21
  try clear c22
  try clear c25
  try clear c28
  try clear c30
  try clear c35
  try clear c36
  try clear c38
  try clear c39
  try clear c56
  try clear c57
  try clear c58
  try clear hcz23_0
  try clear hcz23_1
  try clear hcz23_2
  try clear hcz23_3
  try clear hcz40_0
  try clear hcz40_1
  try clear hcz40_2
  try clear hcz40_3
  try clear hcz59_0
  try clear hcz59_1
  try clear hcz59_2
  try clear hcz59_3
  try clear hfz23_0
  try clear hfz23_1
  try clear hfz23_2
  try clear hfz23_3
  try clear hfz40_0
  try clear hfz40_1
  try clear hfz40_2
  try clear hfz40_3
  try clear hfz59_0
  try clear hfz59_1
  try clear hfz59_2
  try clear hfz59_3
  obtain ⟨kq, x1001_5, x1002_5, x193003_5, u193003, HA, HJ5, HO_193003, BK173, BK192, HI0, HK, HB⟩ := hcut
  cases kq with
  | zero => exact absurd HA.out (by simp [spec_l02Version.j0])
  | succ kj5 =>
   have H := HA.out
   clear HA
   simp only [spec_l02Version.j0] at H
   replace H := Option.bind_eq_some_iff.mp H
   obtain ⟨⟨t217, t218, t219⟩, A610, H⟩ := H
   try dsimp only at H
   have A61 := Aside0.mk A610
   clear A610
   by_cases c62 : t217 = 0
   ·rw [if_pos c62] at H
    have c62b0 : (t217 == 0) = true := beq_iff_eq.mpr c62
    have c62b1 : (t217 != 0) = false := bne_eq_false_iff_eq.mpr c62
    clear c62
    obtain ⟨y220, hy220⟩ : ∃ y_ : List Int, y_ = (([(-1), 999999999, 1000000000] : List Int)) := ⟨_, rfl⟩
    first | replace H := hb1 H (show (spec_l01PickInt.f s0_0 t218 t219 y220) = _ from (by rw [hy220])) | replace H := hb1 (hb2 H) (show (spec_l01PickInt.f s0_0 t218 t219 y220) = _ from (by rw [hy220]))
    have Ny220 := Aside0.mk hy220
    clear hy220
    replace H := Option.bind_eq_some_iff.mp H
    obtain ⟨⟨t223, t224, t225⟩, A630, H⟩ := H
    try dsimp only at H
    have A63 := Aside0.mk A630
    clear A630
    simp only [Option.some.injEq, Prod.mk.injEq] at H
    obtain ⟨rfl, rfl, rfl, rfl, rfl, rfl⟩ := H
    go_wp2_with (first | ((with_reducible refine gate_callee (f := 30) rfl ?_); refine goesL_ (some 32) rfl rfl Tryz.func30 zb17 rfl #[.pointer (some ⟨g, 0, none⟩), .int .i64 24] rfl zb4 ?_; (with_reducible refine (spec_l01Below.calls g s0_0 x1001_5 x1002_5 24 t217 t218 t219 w0 _ ?side1 ?side2 A61.out).mono ?_); (case side1 => exact zb0); (case side2 => exact zb6); rintro e w64 ⟨rfl, hi, hb, hk⟩; refine ⟨_, rfl, ?_⟩; replace HO_193003 := Aside0.mk (Kd.R_mono (Kd.R_keep (IsS55.apart (show IsS55 w0 _ g s0_0 x1001_5 x1002_5 from zb0) (zR HO_193003.out) zb22) hk (fun _ h => h.2)) (fun _ h => h.1)); replace BK173 := Aside0.mk (KeepBut.blk hk (g' := gb173) (o := .cells #[.int .i64 0, .int .i64 0, .int .i64 0, .slice none 0 0] 34 (0, 0)) (zB BK173.out) NB173_0.out zb26); replace BK192 := Aside0.mk (KeepBut.blk hk (g' := gb192) (o := .cells #[.int .i64 t177, .int .i64 t183, .int .i64 t189, u193003] 34 (0, 0)) (zB BK192.out) NB192_0.out zb26); replace HK := Aside0.mk (KeepBut.trans zb5 hk (.inl rfl)); replace HB := Aside0.mk hb; replace HI0 := Aside0.mk hi; (try clear hb); (try clear hb2); (try clear hk); (try clear hi)) | ((with_reducible refine gate_dst (N := 36) rfl ?_); refine Kd.R_lit (Kd.int .i64) _ 3 ?hg (N := 36) ?hd (xs := ([(-1), 999999999, 1000000000] : List Int)) (inner := [.int .i64 (-1), .int .i64 999999999, .int .i64 1000000000]) (ok := fun _ => True) (okp := fun _ => True) ?hr ?hp (fun _ hk => hk) trivial (Below.refl _ _) (Nat.le_refl _) zb26 ?_; (case hd => rfl); (case hg => rfl); (case hr => exact zb18); (case hp => exact zb29); intro v221 w65 ho66 hb hg_ hnew_; clear hg_ hnew_; (first | rw [← Ny220.out] at ho66 | (simp only [Int.reduceToNat] at ho66; rw [← Ny220.out] at ho66)); replace HO_193003 := Aside0.mk (Kd.R_below (zR HO_193003.out) hb); have HO222 := Aside0.mk (Kd.R_lower ho66 (keep_size (w := w) (g := g) (row := none) zb5)); replace BK173 := Aside0.mk (blk_below (g := gb173) (o := .cells #[.int .i64 0, .int .i64 0, .int .i64 0, .slice none 0 0] 34 (0, 0)) (zB BK173.out) hb); replace BK192 := Aside0.mk (blk_below (g := gb192) (o := .cells #[.int .i64 t177, .int .i64 t183, .int .i64 t189, u193003] 34 (0, 0)) (zB BK192.out) hb); replace HK := Aside0.mk (KeepBut.trans zb5 (KeepBut.of_below hb g none) (.inl rfl)); replace HB := Aside0.mk (below_step zb6 hb); replace HI0 := Aside0.mk (IsS55.below zb0 hb); clear hb ho66; obtain ⟨Ao67, co67, eo67⟩ := Kd.R_slice HO222.out; subst eo67) | ((with_reducible refine gate_callee (f := 89) rfl ?_); refine goesL_ (some 37) rfl rfl Tryz.func89 zb17 rfl #[.pointer (some ⟨g, 0, none⟩), .slice Ao67 y220.length co67] rfl zb4 ?_; (with_reducible refine (spec_l01PickInt.calls g s0_0 t218 t219 _ _ y220 t223 t224 t225 w0 _ ?side1 ?side2 ?side3 ?side4 ?side5 A63.out).mono ?_); (case side1 => exact zb0); (case side2 => exact zb6); (case side3 => repeat (first | exact (Kd.R_reads' HO222.out).2.2 | (with_reducible refine Kd.C_alloc ?_ _) | (with_reducible refine Kd.C_drewN ?_ _) | (with_reducible refine Kd.C_drew ?_))); (case side4 => exact (Kd.R_reads' HO222.out).2.1); (case side5 => exact far_slice (IsS55.own_ne HI0.out HO222.out zb22)); rintro e w68 ⟨rfl, hi, hb, hk⟩; refine ⟨_, rfl, ?_⟩; replace HO_193003 := Aside0.mk (Kd.R_mono (Kd.R_keep (IsS55.apart (show IsS55 w0 _ g s0_0 t218 t219 from zb0) (zR HO_193003.out) zb22) hk (fun _ h => h.2)) (fun _ h => h.1)); replace BK173 := Aside0.mk (KeepBut.blk hk (g' := gb173) (o := .cells #[.int .i64 0, .int .i64 0, .int .i64 0, .slice none 0 0] 34 (0, 0)) (zB BK173.out) NB173_0.out zb26); replace BK192 := Aside0.mk (KeepBut.blk hk (g' := gb192) (o := .cells #[.int .i64 t177, .int .i64 t183, .int .i64 t189, u193003] 34 (0, 0)) (zB BK192.out) NB192_0.out zb26); replace HO222 := Aside0.mk (Kd.R_mono (Kd.R_keep (IsS55.apart (show IsS55 w0 _ g s0_0 t218 t219 from zb0) (zR HO222.out) zb22) hk (fun _ h => h.2)) (fun _ h => h.1)); replace HK := Aside0.mk (KeepBut.trans zb5 hk (.inl rfl)); replace HB := Aside0.mk hb; replace HI0 := Aside0.mk hi; (try clear hb); (try clear hb2); (try clear hk); (try clear hi); have hnb69 := NB192_173.out; have hnc69 := NB173_192.out; have hnb70 := NB192_0.out; have hnc70 := NB0_192.out; have hcz71_0 : w68.cell? ⟨gb192, 0, none⟩ = some (.int .i64 t177) := (blk_cell BK192.out 0).trans rfl; have hcz71_1 : w68.cell? ⟨gb192, 1, none⟩ = some (.int .i64 t183) := (blk_cell BK192.out 1).trans rfl; have hcz71_2 : w68.cell? ⟨gb192, 2, none⟩ = some (.int .i64 t189) := (blk_cell BK192.out 2).trans rfl; have hcz71_3 : w68.cell? ⟨gb192, 3, none⟩ = some (u193003) := (blk_cell BK192.out 3).trans rfl; have hfz71_0 := blk_frozen BK192.out 0; have hfz71_1 := blk_frozen BK192.out 1; have hfz71_2 := blk_frozen BK192.out 2; have hfz71_3 := blk_frozen BK192.out 3; have hnb72 := NB173_0.out; have hnc72 := NB0_173.out; have hcz73_0 : w68.cell? ⟨gb173, 0, none⟩ = some (.int .i64 0) := (blk_cell BK173.out 0).trans rfl; have hcz73_1 : w68.cell? ⟨gb173, 1, none⟩ = some (.int .i64 0) := (blk_cell BK173.out 1).trans rfl; have hcz73_2 : w68.cell? ⟨gb173, 2, none⟩ = some (.int .i64 0) := (blk_cell BK173.out 2).trans rfl; have hcz73_3 : w68.cell? ⟨gb173, 3, none⟩ = some (.slice none 0 0) := (blk_cell BK173.out 3).trans rfl; have hfz73_0 := blk_frozen BK173.out 0; have hfz73_1 := blk_frozen BK173.out 1; have hfz73_2 := blk_frozen BK173.out 2; have hfz73_3 := blk_frozen BK173.out 3; obtain ⟨Ao74, co74, eo74⟩ := Kd.R_slice HO_193003.out; subst eo74))
    refine bodyPost_ret (results_cell_row rfl _ _ gb173 34 #[.int .i64 t177, .int .i64 t223, .int .i64 t189, .slice Ao74 x193003_5.length co74] (0, 0) _ rfl (by (with_reducible repeat (first | refine bN_ ?_ _ | refine bD_ ?_ | refine bA_ ?_ _)); refine blk_put (cs := #[.int .i64 t177, .int .i64 t223, .int .i64 t189, .slice none 0 0]) ?_ 3 _ rfl; (with_reducible repeat (first | refine bN_ ?_ _ | refine bD_ ?_ | refine bA_ ?_ _)); refine blk_put (cs := #[.int .i64 t177, .int .i64 t223, .int .i64 0, .slice none 0 0]) ?_ 2 _ rfl; (with_reducible repeat (first | refine bN_ ?_ _ | refine bD_ ?_ | refine bA_ ?_ _)); refine blk_put (cs := #[.int .i64 t177, .int .i64 0, .int .i64 0, .slice none 0 0]) ?_ 1 _ rfl; (with_reducible repeat (first | refine bN_ ?_ _ | refine bD_ ?_ | refine bA_ ?_ _)); refine blk_put (cs := #[.int .i64 0, .int .i64 0, .int .i64 0, .slice none 0 0]) ?_ 0 _ rfl; (with_reducible repeat (first | refine bN_ ?_ _ | refine bD_ ?_ | refine bA_ ?_ _)); refine blk_far ?_ NB173_192.out _; (with_reducible repeat (first | refine bN_ ?_ _ | refine bD_ ?_ | refine bA_ ?_ _)); exact BK173.out) Tryz.underlying34 rfl zb17) rfl ?_
    exact ⟨_, zb9, (zR (Kd.R_mono (Kd.R_far (p := ⟨gb173, 3, none⟩) (Kd.R_far (p := ⟨gb173, 2, none⟩) (Kd.R_far (p := ⟨gb173, 1, none⟩) (Kd.R_far (p := ⟨gb173, 0, none⟩) (Kd.R_far (p := ⟨gb192, 1, none⟩) (Kd.R_types (Kd.R_types HO_193003.out BK192.out zb22) BK173.out zb22) (fun _ hk => hk.1.2) (.int .i64 t223)) (fun _ hk => hk.2) (.int .i64 t177)) (fun _ hk => hk.2) (.int .i64 t223)) (fun _ hk => hk.2) (.int .i64 t189)) (fun _ hk => hk.2) (.slice Ao74 x193003_5.length co74)) (fun _ hk => trivial))), zb0, zb6, zb5⟩
   ·rw [if_neg c62] at H
    have c62b0 : (t217 == 0) = false := beq_eq_false_iff_ne.mpr c62
    have c62b1 : (t217 != 0) = true := bne_iff_ne.mpr c62
    by_cases c75 : t217 = 1
    ·rw [if_pos c75] at H
     have c75b0 : (t217 == 1) = true := beq_iff_eq.mpr c75
     have c75b1 : (t217 != 1) = false := bne_eq_false_iff_eq.mpr c75
     clear c75
     obtain ⟨y226, hy226⟩ : ∃ y_ : List ByteArray, y_ = (([(⟨#[]⟩ : ByteArray), (⟨#[48, 49]⟩ : ByteArray), (⟨#[97, 95, 98]⟩ : ByteArray), (⟨#[49, 48, 48, 48, 48, 48, 48, 48, 48, 48]⟩ : ByteArray), (⟨#[97, 98, 99, 100, 101, 102, 103, 104, 105, 106, 107, 108, 109, 110, 111, 112, 113, 114, 115, 116]⟩ : ByteArray), (⟨#[97, 98, 99, 100, 101, 102, 103, 104, 105, 106, 107, 108, 109, 110, 111, 112, 113, 114, 115, 116, 117]⟩ : ByteArray)] : List ByteArray)) := ⟨_, rfl⟩
     first | replace H := hb1 H (show (spec_l01Pick.f s0_0 t218 t219 y226) = _ from (by rw [hy226])) | replace H := hb1 (hb2 H) (show (spec_l01Pick.f s0_0 t218 t219 y226) = _ from (by rw [hy226]))
     have Ny226 := Aside0.mk hy226
     clear hy226
     replace H := Option.bind_eq_some_iff.mp H
     obtain ⟨⟨t229, t230, t231⟩, A760, H⟩ := H
     try dsimp only at H
     have A76 := Aside0.mk A760
     clear A760
     by_cases c77 : x193003_5.length < 8796093022208
     ·rw [if_pos c77] at H
      have LMc77 := Aside0.mk c77
      clear c77
      obtain ⟨y232, hy232⟩ : ∃ y_ : List ByteArray, y_ = (x193003_5 ++ [t229]) := ⟨_, rfl⟩
      replace H : (some (t177, t183, t189, y232, t230, t231)) = some (r1, r2, r3, r4, r5, r6) := by first | (rw [hy232]; with_reducible exact H) | (have H2_ := (Option.bind_some _ _).symm.trans H; rw [hy232]; with_reducible exact H2_) | (have H2_ := (Option.bind_some _ _).symm.trans H; with_reducible exact H2_) | with_reducible exact H | (rw [hy232]; exact H) | exact H
      have Ny232 := Aside0.mk hy232
      clear hy232
      simp only [Option.some.injEq, Prod.mk.injEq] at H
      obtain ⟨rfl, rfl, rfl, rfl, rfl, rfl⟩ := H
      try go_wp2_with (first | ((with_reducible refine gate_callee (f := 30) rfl ?_); refine goesL_ (some 32) rfl rfl Tryz.func30 zb17 rfl #[.pointer (some ⟨g, 0, none⟩), .int .i64 24] rfl zb4 ?_; (with_reducible refine (spec_l01Below.calls g s0_0 x1001_5 x1002_5 24 t217 t218 t219 w0 _ ?side1 ?side2 A61.out).mono ?_); (case side1 => exact zb0); (case side2 => exact zb6); rintro e w78 ⟨rfl, hi, hb, hk⟩; refine ⟨_, rfl, ?_⟩; replace HO_193003 := Aside0.mk (Kd.R_mono (Kd.R_keep (IsS55.apart (show IsS55 w0 _ g s0_0 x1001_5 x1002_5 from zb0) (zR HO_193003.out) zb22) hk (fun _ h => h.2)) (fun _ h => h.1)); replace BK173 := Aside0.mk (KeepBut.blk hk (g' := gb173) (o := .cells #[.int .i64 0, .int .i64 0, .int .i64 0, .slice none 0 0] 34 (0, 0)) (zB BK173.out) NB173_0.out zb26); replace BK192 := Aside0.mk (KeepBut.blk hk (g' := gb192) (o := .cells #[.int .i64 t177, .int .i64 t183, .int .i64 t189, u193003] 34 (0, 0)) (zB BK192.out) NB192_0.out zb26); replace HK := Aside0.mk (KeepBut.trans zb5 hk (.inl rfl)); replace HB := Aside0.mk hb; replace HI0 := Aside0.mk hi; (try clear hb); (try clear hb2); (try clear hk); (try clear hi)))
      replace HO_193003 := Aside0.mk (Kd.R_drew HO_193003.out)
      replace BK173 := Aside0.mk (blk_drew BK173.out)
      replace BK192 := Aside0.mk (blk_drew BK192.out)
      replace HI0 := Aside0.mk (IsS55.drew HI0.out)
      replace HK := Aside0.mk (keep_drew HK.out)
      replace HB := Aside0.mk (below_drew1 HB.out)
      refine start_ (n := 9) (S := fun w' => w'.cell? ⟨gb192, 0, none⟩ = some (.int .i64 t177) ∧ w'.cell? ⟨gb192, 1, none⟩ = some (.int .i64 t183) ∧ w'.cell? ⟨gb192, 2, none⟩ = some (.int .i64 t189) ∧ w'.cell? ⟨gb192, 3, none⟩ = some (u193003)) (ds := [8]) #[false, false, false, false, false, false, false, false, false] zb17 rfl rfl ⟨(blk_cell BK192.out 0).trans rfl, (blk_cell BK192.out 1).trans rfl, (blk_cell BK192.out 2).trans rfl, (blk_cell BK192.out 3).trans rfl⟩ (fun hHeld => ?_); refine with_tabW spec_l02Version.tab10 spec_l02Version.bits10 (fun HT_ HW_ => ?_)
      generalize w78.drew = w79 at HO_193003 BK173 BK192 HI0 HK HB hHeld ⊢
      refine pz 0 41 ?_
      refine pz 2 43 ?_
      refine take_ (i := 1) (N := some 42) (v := ?_) (a' := ?_) #[true, true, true, false, false, false, false, false, false] rfl rfl (take_ofW HT_.out HW_.out zb17) (fun _ _ _ h => h) (Or.inl ⟨by rfl, ?_⟩) hHeld ?_ ?_
      rotate_left
      ·rintro w' ⟨s0, s1, s2, s3⟩
       go_simp
       with_reducible rfl
      rotate_left
      ·simp only [Act.put, List.setIfInBounds_toArray, List.set_cons_zero, List.set_cons_succ, i64_w, i32_w]
       rfl
      refine one_ (i := 3) (N := some 44) #[true, true, true, true, false, false, false, false, false] rfl rfl (one_of HT_.out zb17) zb22 (fun K hK => ?_)
      refine Kd.R_lit_step Kd.string _ 9 ?hg (N := 44) ?hd (xs := ([(⟨#[]⟩ : ByteArray), (⟨#[48, 49]⟩ : ByteArray), (⟨#[97, 95, 98]⟩ : ByteArray), (⟨#[49, 48, 48, 48, 48, 48, 48, 48, 48, 48]⟩ : ByteArray), (⟨#[97, 98, 99, 100, 101, 102, 103, 104, 105, 106, 107, 108, 109, 110, 111, 112, 113, 114, 115, 116]⟩ : ByteArray), (⟨#[97, 98, 99, 100, 101, 102, 103, 104, 105, 106, 107, 108, 109, 110, 111, 112, 113, 114, 115, 116, 117]⟩ : ByteArray)] : List ByteArray)) (inner := [.string (⟨#[]⟩ : ByteArray), .string (⟨#[48, 49]⟩ : ByteArray), .string (⟨#[97, 95, 98]⟩ : ByteArray), .string (⟨#[49, 48, 48, 48, 48, 48, 48, 48, 48, 48]⟩ : ByteArray), .string (⟨#[97, 98, 99, 100, 101, 102, 103, 104, 105, 106, 107, 108, 109, 110, 111, 112, 113, 114, 115, 116]⟩ : ByteArray), .string (⟨#[97, 98, 99, 100, 101, 102, 103, 104, 105, 106, 107, 108, 109, 110, 111, 112, 113, 114, 115, 116, 117]⟩ : ByteArray)]) (ok := fun _ => True) (okp := fun _ => True) ?hr ?hp (fun _ hk => hk) trivial (Below.refl _ _) (Nat.le_refl _) zb26 ?_; (case hd => rfl); (case hg => rfl); (case hr => exact zb18); (case hp => exact zb15)
      intro v227 w80 ho81 hb hg_ hnew_
      clear hg_ hnew_
      (first | rw [← Ny226.out] at ho81 | (simp only [Int.reduceToNat] at ho81; rw [← Ny226.out] at ho81))
      have HO228 := Aside0.mk (Kd.R_lower (Kd.R_new' ho81 (Kd.R_lt (zR HO_193003.out))) (keep_size (w := w) (g := g) (row := none) zb5))
      replace HO_193003 := Aside0.mk (Kd.R_elder' (zR HO_193003.out) (Kd.R_base ho81) hb)
      replace BK173 := Aside0.mk (blk_below (g := gb173) (o := .cells #[.int .i64 0, .int .i64 0, .int .i64 0, .slice none 0 0] 34 (0, 0)) (zB BK173.out) hb)
      replace BK192 := Aside0.mk (blk_below (g := gb192) (o := .cells #[.int .i64 t177, .int .i64 t183, .int .i64 t189, u193003] 34 (0, 0)) (zB BK192.out) hb)
      replace HK := Aside0.mk (KeepBut.trans zb5 (KeepBut.of_below hb g none) (.inl rfl))
      replace HB := Aside0.mk (below_step zb6 hb)
      replace HI0 := Aside0.mk (IsS55.below zb0 hb)
      clear hb ho81
      obtain ⟨Ao82, co82, eo82⟩ := Kd.R_slice HO228.out
      (first | subst eo82 | (injection eo82 with f1_ f2_ f3_; have f4_ := f1_.symm; have f5_ := f3_.symm; clear f1_ f2_ f3_; subst f4_; subst f5_))
      refine hK.out _ _ ⟨(blk_cell BK192.out 0).trans rfl, (blk_cell BK192.out 1).trans rfl, (blk_cell BK192.out 2).trans rfl, (blk_cell BK192.out 3).trans rfl⟩ (fun hHeld => ?_)
      clear hK K
      refine norm_ (a' := ?_) ?_ ?_
      rotate_left
      ·show Act.put _ (some 44) _ = _
       simp only [Act.put, List.setIfInBounds_toArray, List.set_cons_zero, List.set_cons_succ, i64_w, i32_w]
       rfl
      refine one_ (i := 4) (N := some 45) #[true, true, true, true, true, false, false, false, false] rfl rfl (one_of HT_.out zb17) zb22 (fun K hK => ?_)
      refine goes_ Tryz.func36 zb17 rfl #[.pointer (some ⟨g, 0, none⟩), .slice Ao82 y226.length co82] (by rfl) rfl rfl zb4 ?_
      with_reducible refine (spec_l01Pick.calls g s0_0 t218 t219 _ _ y226 t229 t230 t231 w0 _ ?side1 ?side2 ?side3 ?side4 ?side5 A76.out).mono ?_
      (case side1 => exact zb0)
      (case side2 => exact zb6)
      (case side3 => repeat (first | exact (Kd.R_reads' HO228.out).2.2 | (with_reducible refine Kd.C_alloc ?_ _) | (with_reducible refine Kd.C_drewN ?_ _) | (with_reducible refine Kd.C_drew ?_)))
      (case side4 => exact (Kd.R_reads' HO228.out).2.1)
      (case side5 => exact far_slice (IsS55.own_ne HI0.out HO228.out zb22))
      rintro e w83 ⟨rfl, hi, hb, hk⟩
      refine ⟨_, rfl, ?_⟩
      replace HO_193003 := Aside0.mk (Kd.R_mono (Kd.R_keep (IsS55.apart (show IsS55 w0 _ g s0_0 t218 t219 from zb0) (zR HO_193003.out) zb22) hk (fun _ h => h.2)) (fun _ h => h.1))
      replace BK173 := Aside0.mk (KeepBut.blk hk (g' := gb173) (o := .cells #[.int .i64 0, .int .i64 0, .int .i64 0, .slice none 0 0] 34 (0, 0)) (zB BK173.out) NB173_0.out zb26)
      replace BK192 := Aside0.mk (KeepBut.blk hk (g' := gb192) (o := .cells #[.int .i64 t177, .int .i64 t183, .int .i64 t189, u193003] 34 (0, 0)) (zB BK192.out) NB192_0.out zb26)
      replace HO228 := Aside0.mk (Kd.R_mono (Kd.R_keep (IsS55.apart (show IsS55 w0 _ g s0_0 t218 t219 from zb0) (zR HO228.out) zb22) hk (fun _ h => h.2)) (fun _ h => h.1))
      replace HK := Aside0.mk (KeepBut.trans zb5 hk (.inl rfl))
      replace HB := Aside0.mk hb
      replace HI0 := Aside0.mk hi
      (try clear hb)
      (try clear hb2)
      (try clear hk)
      (try clear hi)
      refine hK.out _ _ ⟨(blk_cell BK192.out 0).trans rfl, (blk_cell BK192.out 1).trans rfl, (blk_cell BK192.out 2).trans rfl, (blk_cell BK192.out 3).trans rfl⟩ (fun hHeld => ?_)
      clear hK K
      refine norm_ (a' := ?_) ?_ ?_
      rotate_left
      ·show Act.put _ (some 45) _ = _
       simp only [Act.put, List.setIfInBounds_toArray, List.set_cons_zero, List.set_cons_succ, i64_w, i32_w]
       rfl
      refine one_ (i := 5) (N := some 46) #[true, true, true, true, true, true, false, false, false] rfl rfl (one_of HT_.out zb17) zb22 (fun K hK => ?_)
      refine value_ (w1 := ?_) (v := ?_) (by rfl) rfl ?_ ?_
      rotate_left 2
      ·go_simp
       constructor
       ·rfl
       ·rfl
      refine hK.out _ _ ⟨(blk_cell (blk_alloc BK192.out _) 0).trans rfl, (blk_cell (blk_alloc BK192.out _) 1).trans rfl, (blk_cell (blk_alloc BK192.out _) 2).trans rfl, (blk_cell (blk_alloc BK192.out _) 3).trans rfl⟩ (fun hHeld => ?_)
      clear hK K
      refine norm_ (a' := ?_) ?_ ?_
      rotate_left
      ·show Act.put _ (some 46) _ = _
       simp only [Act.put, List.setIfInBounds_toArray, List.set_cons_zero, List.set_cons_succ, i64_w, i32_w]
       rfl
      refine one_ (i := 6) (N := some 47) #[true, true, true, true, true, true, true, false, false] rfl rfl (one_of HT_.out zb17) zb22 (fun K hK => ?_)
      refine Kd.R_append_step Kd.string w.heap.size (by rfl) (.tmp 42) (.tmp 46) 24 9 (.string ⟨#[]⟩) 16 rfl Tryz.underlying24 info9 rfl zb22 zb35 u193003 x193003_5 t229 [.string t229] (fun k_ => some k_ ≠ (.slice Ao82 y226.length co82 : Value).ownBlock) (fun _ => False) rfl rfl ?aP (fun _ hk => hk.elim) ?aF ?aO (Below.refl _ _) ?aS ?aL ?_
      (case aP => exact rfl)
      (case aF => exact (fun k_ hk => Kd.fresh' (Kd.R_lt (zR HO228.out)) k_ hk))
      (case aO => exact (zR (Kd.R_mono HO_193003.out (fun _ hk => hk.2))))
      (case aS => exact (keep_size (w := w) (g := g) (row := none) zb5))
      (case aL => have := LMc77.out; omega)
      intro v233 w84 ho hb hg hat
      rw [← Ny232.out] at ho
      replace BK173 := Aside0.mk (blk_grown (g := gb173) (o := .cells #[.int .i64 0, .int .i64 0, .int .i64 0, .slice none 0 0] 34 (0, 0)) (zB BK173.out) hg (Kd.R_ne HO_193003.out BK173.out zb22))
      replace BK192 := Aside0.mk (blk_grown (g := gb192) (o := .cells #[.int .i64 t177, .int .i64 t183, .int .i64 t189, u193003] 34 (0, 0)) (zB BK192.out) hg (Kd.R_ne HO_193003.out BK192.out zb22))
      replace HO228 := Aside0.mk (Kd.R_after (ok := (fun _ => True)) (zR HO228.out) hg hat)
      replace HB := Aside0.mk (below_weaken zb6 HL.out hb)
      replace HI0 := Aside0.mk (IsS55.grown zb0 hg (IsS55.own_ne HI0.out HO_193003.out zb22))
      replace HK := Aside0.mk (KeepBut.trans zb5 (KeepBut.of_grown hg g) (Kd.R_base2 HO_193003.out))
      have HO234 := Aside0.mk ho
      clear HO_193003 ho hb hg hat
      obtain ⟨Ao85, co85, eo85⟩ := Kd.R_slice HO234.out
      (first | subst eo85 | (injection eo85 with f1_ f2_ f3_; have f4_ := f1_.symm; have f5_ := f3_.symm; clear f1_ f2_ f3_; subst f4_; subst f5_))
      refine hK.out _ _ ⟨(blk_cell BK192.out 0).trans rfl, (blk_cell BK192.out 1).trans rfl, (blk_cell BK192.out 2).trans rfl, (blk_cell BK192.out 3).trans rfl⟩ (fun hHeld => ?_)
      clear hK K
      refine norm_ (a' := ?_) ?_ ?_
      rotate_left
      ·show Act.put _ (some 47) _ = _
       simp only [Act.put, List.setIfInBounds_toArray, List.set_cons_zero, List.set_cons_succ, i64_w, i32_w]
       rfl
      refine pz 7 48 ?_
      refine last_ (i := 8) (N := none) #[true, true, true, true, true, true, true, true, true] rfl rfl (one_of HT_.out zb17) zb22 (fun K hK => ?_)
      have hs86 : w84.cell? ⟨gb192, 3, none⟩ = some (u193003) := (blk_cell BK192.out 3).trans rfl
      have hfs86 := blk_frozen BK192.out 3
      have hns86_0 := NB173_192.out
      have hms86_0 := NB192_173.out
      refine skip_ (w1 := ?_) (by rfl) rfl ?_ ?_
      rotate_left
      ·go_simp
       rfl
      refine hK.out _ _ ?_
      clear hK K
      refine done_ (done_of HT_.out zb17) ?_
      have hnb87 := NB192_173.out
      have hnc87 := NB173_192.out
      have hnb88 := NB192_0.out
      have hnc88 := NB0_192.out
      have hcz89_0 : w84.cell? ⟨gb192, 0, none⟩ = some (.int .i64 t177) := (blk_cell BK192.out 0).trans rfl
      have hcz89_1 : w84.cell? ⟨gb192, 1, none⟩ = some (.int .i64 t183) := (blk_cell BK192.out 1).trans rfl
      have hcz89_2 : w84.cell? ⟨gb192, 2, none⟩ = some (.int .i64 t189) := (blk_cell BK192.out 2).trans rfl
      have hcz89_3 : w84.cell? ⟨gb192, 3, none⟩ = some (u193003) := (blk_cell BK192.out 3).trans rfl
      have hfz89_0 := blk_frozen BK192.out 0
      have hfz89_1 := blk_frozen BK192.out 1
      have hfz89_2 := blk_frozen BK192.out 2
      have hfz89_3 := blk_frozen BK192.out 3
      have hnb90 := NB173_0.out
      have hnc90 := NB0_173.out
      have hcz91_0 : w84.cell? ⟨gb173, 0, none⟩ = some (.int .i64 0) := (blk_cell BK173.out 0).trans rfl
      have hcz91_1 : w84.cell? ⟨gb173, 1, none⟩ = some (.int .i64 0) := (blk_cell BK173.out 1).trans rfl
      have hcz91_2 : w84.cell? ⟨gb173, 2, none⟩ = some (.int .i64 0) := (blk_cell BK173.out 2).trans rfl
      have hcz91_3 : w84.cell? ⟨gb173, 3, none⟩ = some (.slice none 0 0) := (blk_cell BK173.out 3).trans rfl
      have hfz91_0 := blk_frozen BK173.out 0
      have hfz91_1 := blk_frozen BK173.out 1
      have hfz91_2 := blk_frozen BK173.out 2
      have hfz91_3 := blk_frozen BK173.out 3
      try go_wp2
      refine bodyPost_ret (results_cell_row rfl _ _ gb173 34 #[.int .i64 t177, .int .i64 t183, .int .i64 t189, .slice Ao85 y232.length co85] (0, 0) _ rfl zb20 Tryz.underlying34 rfl zb17) rfl ?_
      exact ⟨_, zb9, (zR (Kd.R_mono (Kd.R_far (p := ⟨gb173, 3, none⟩) (Kd.R_far (p := ⟨gb173, 2, none⟩) (Kd.R_far (p := ⟨gb173, 1, none⟩) (Kd.R_far (p := ⟨gb173, 0, none⟩) (Kd.R_far (p := ⟨gb192, 3, none⟩) (Kd.R_types (Kd.R_types HO234.out BK192.out zb22) BK173.out zb22) (fun _ hk => hk.1.2) (.slice Ao85 y232.length co85)) (fun _ hk => hk.2) (.int .i64 t177)) (fun _ hk => hk.2) (.int .i64 t183)) (fun _ hk => hk.2) (.int .i64 t189)) (fun _ hk => hk.2) (.slice Ao85 y232.length co85)) (fun _ hk => trivial))), zb0, zb6, zb5⟩
     ·rw [if_neg c77] at H
      exact absurd H zb26
    ·rw [if_neg c75] at H
     have c75b0 : (t217 == 1) = false := beq_eq_false_iff_ne.mpr c75
     have c75b1 : (t217 != 1) = true := bne_iff_ne.mpr c75
     by_cases c92 : t217 = 2
     ·rw [if_pos c92] at H
      have c92b0 : (t217 == 2) = true := beq_iff_eq.mpr c92
      have c92b1 : (t217 != 2) = false := bne_eq_false_iff_eq.mpr c92
      clear c92
      obtain ⟨y235, hy235⟩ : ∃ y_ : List ByteArray, y_ = (([(⟨#[97]⟩ : ByteArray), (⟨#[98]⟩ : ByteArray), (⟨#[99]⟩ : ByteArray), (⟨#[100]⟩ : ByteArray), (⟨#[101]⟩ : ByteArray)] : List ByteArray)) := ⟨_, rfl⟩
      replace H : ((spec_l01Once.f s0_0 t218 t219 2).bind fun bt238 => (if bt238.1 = true then (if y235.length < 8796093022208 then (some (t177, t183, t189, (y235 ++ [(⟨#[102]⟩ : ByteArray)]), bt238.2.1, bt238.2.2)) else (none)) else (some (t177, t183, t189, y235, bt238.2.1, bt238.2.2)))) = some (r1, r2, r3, r4, r5, r6) := by first | (rw [hy235]; with_reducible exact H) | (have H2_ := (Option.bind_some _ _).symm.trans H; rw [hy235]; with_reducible exact H2_) | (have H2_ := (Option.bind_some _ _).symm.trans H; with_reducible exact H2_) | with_reducible exact H | (rw [hy235]; exact H) | exact H
      have Ny235 := Aside0.mk hy235
      clear hy235
      replace H := Option.bind_eq_some_iff.mp H
      obtain ⟨⟨t238, t239, t240⟩, A930, H⟩ := H
      try dsimp only at H
      have A93 := Aside0.mk A930
      clear A930
      by_cases c94 : t238 = true
      ·subst c94
       rw [if_pos rfl] at H
       by_cases c95 : y235.length < 8796093022208
       ·rw [if_pos c95] at H
        have LMc95 := Aside0.mk c95
        clear c95
        obtain ⟨y241, hy241⟩ : ∃ y_ : List ByteArray, y_ = (y235 ++ [(⟨#[102]⟩ : ByteArray)]) := ⟨_, rfl⟩
        replace H : (some (t177, t183, t189, y241, t239, t240)) = some (r1, r2, r3, r4, r5, r6) := by first | (rw [hy241]; with_reducible exact H) | (have H2_ := (Option.bind_some _ _).symm.trans H; rw [hy241]; with_reducible exact H2_) | (have H2_ := (Option.bind_some _ _).symm.trans H; with_reducible exact H2_) | with_reducible exact H | (rw [hy241]; exact H) | exact H
        have Ny241 := Aside0.mk hy241
        clear hy241
        simp only [Option.some.injEq, Prod.mk.injEq] at H
        obtain ⟨rfl, rfl, rfl, rfl, rfl, rfl⟩ := H
        go_wp2_with (first | ((with_reducible refine gate_callee (f := 30) rfl ?_); refine goesL_ (some 32) rfl rfl Tryz.func30 zb17 rfl #[.pointer (some ⟨g, 0, none⟩), .int .i64 24] rfl zb4 ?_; (with_reducible refine (spec_l01Below.calls g s0_0 x1001_5 x1002_5 24 t217 t218 t219 w0 _ ?side1 ?side2 A61.out).mono ?_); (case side1 => exact zb0); (case side2 => exact zb6); rintro e w96 ⟨rfl, hi, hb, hk⟩; refine ⟨_, rfl, ?_⟩; replace HO_193003 := Aside0.mk (Kd.R_mono (Kd.R_keep (IsS55.apart (show IsS55 w0 _ g s0_0 x1001_5 x1002_5 from zb0) (zR HO_193003.out) zb22) hk (fun _ h => h.2)) (fun _ h => h.1)); replace BK173 := Aside0.mk (KeepBut.blk hk (g' := gb173) (o := .cells #[.int .i64 0, .int .i64 0, .int .i64 0, .slice none 0 0] 34 (0, 0)) (zB BK173.out) NB173_0.out zb26); replace BK192 := Aside0.mk (KeepBut.blk hk (g' := gb192) (o := .cells #[.int .i64 t177, .int .i64 t183, .int .i64 t189, u193003] 34 (0, 0)) (zB BK192.out) NB192_0.out zb26); replace HK := Aside0.mk (KeepBut.trans zb5 hk (.inl rfl)); replace HB := Aside0.mk hb; replace HI0 := Aside0.mk hi; (try clear hb); (try clear hb2); (try clear hk); (try clear hi)) | ((with_reducible refine gate_dst (N := 51) rfl ?_); refine Kd.R_lit Kd.string _ 9 ?hg (N := 51) ?hd (xs := ([(⟨#[97]⟩ : ByteArray), (⟨#[98]⟩ : ByteArray), (⟨#[99]⟩ : ByteArray), (⟨#[100]⟩ : ByteArray), (⟨#[101]⟩ : ByteArray)] : List ByteArray)) (inner := [.string (⟨#[97]⟩ : ByteArray), .string (⟨#[98]⟩ : ByteArray), .string (⟨#[99]⟩ : ByteArray), .string (⟨#[100]⟩ : ByteArray), .string (⟨#[101]⟩ : ByteArray)]) (ok := fun _ => True) (okp := fun _ => True) ?hr ?hp (fun _ hk => hk) trivial (Below.refl _ _) (Nat.le_refl _) zb26 ?_; (case hd => rfl); (case hg => rfl); (case hr => exact zb18); (case hp => exact zb15); intro v236 w97 ho98 hb hg_ hnew_; clear hg_ hnew_; (first | rw [← Ny235.out] at ho98 | (simp only [Int.reduceToNat] at ho98; rw [← Ny235.out] at ho98)); have HO237 := Aside0.mk (Kd.R_lower (Kd.R_new' ho98 (Kd.R_lt (zR HO_193003.out))) (keep_size (w := w) (g := g) (row := none) zb5)); replace HO_193003 := Aside0.mk (Kd.R_elder' (zR HO_193003.out) (Kd.R_base ho98) hb); replace BK173 := Aside0.mk (blk_below (g := gb173) (o := .cells #[.int .i64 0, .int .i64 0, .int .i64 0, .slice none 0 0] 34 (0, 0)) (zB BK173.out) hb); replace BK192 := Aside0.mk (blk_below (g := gb192) (o := .cells #[.int .i64 t177, .int .i64 t183, .int .i64 t189, u193003] 34 (0, 0)) (zB BK192.out) hb); replace HK := Aside0.mk (KeepBut.trans zb5 (KeepBut.of_below hb g none) (.inl rfl)); replace HB := Aside0.mk (below_step zb6 hb); replace HI0 := Aside0.mk (IsS55.below zb0 hb); clear hb ho98; obtain ⟨Ao99, co99, eo99⟩ := Kd.R_slice HO237.out; subst eo99; have hnb100 := NB192_173.out; have hnc100 := NB173_192.out; have hnb101 := NB192_0.out; have hnc101 := NB0_192.out; have hcz102_0 : w97.cell? ⟨gb192, 0, none⟩ = some (.int .i64 t177) := (blk_cell BK192.out 0).trans rfl; have hcz102_1 : w97.cell? ⟨gb192, 1, none⟩ = some (.int .i64 t183) := (blk_cell BK192.out 1).trans rfl; have hcz102_2 : w97.cell? ⟨gb192, 2, none⟩ = some (.int .i64 t189) := (blk_cell BK192.out 2).trans rfl; have hcz102_3 : w97.cell? ⟨gb192, 3, none⟩ = some (u193003) := (blk_cell BK192.out 3).trans rfl; have hfz102_0 := blk_frozen BK192.out 0; have hfz102_1 := blk_frozen BK192.out 1; have hfz102_2 := blk_frozen BK192.out 2; have hfz102_3 := blk_frozen BK192.out 3) | ((with_reducible refine gate_callee (f := 35) rfl ?_); refine goesL_ (some 54) rfl rfl Tryz.func35 zb17 rfl #[.pointer (some ⟨g, 0, none⟩), .int .i64 2] rfl zb4 ?_; (with_reducible refine (spec_l01Once.calls g s0_0 t218 t219 2 true t239 t240 w0 _ ?side1 ?side2 A93.out).mono ?_); (case side1 => exact zb0); (case side2 => exact zb6); rintro e w103 ⟨rfl, hi, hb, hk⟩; refine ⟨_, rfl, ?_⟩; replace HO_193003 := Aside0.mk (Kd.R_mono (Kd.R_keep (IsS55.apart (show IsS55 w0 _ g s0_0 t218 t219 from zb0) (zR (Kd.R_mono (Kd.R_far (p := ⟨gb192, 3, none⟩) (Kd.R_types HO_193003.out BK192.out zb22) (fun _ hk => hk.2) (.slice Ao99 y235.length co99)) (fun _ h_ => h_.1))) zb22) hk (fun _ h => h.2)) (fun _ h => h.1)); replace BK173 := Aside0.mk (KeepBut.blk hk (g' := gb173) (o := .cells #[.int .i64 0, .int .i64 0, .int .i64 0, .slice none 0 0] 34 (0, 0)) zb21 NB173_0.out zb26); replace HO237 := Aside0.mk (Kd.R_mono (Kd.R_keep (IsS55.apart (show IsS55 w0 _ g s0_0 t218 t219 from zb0) (zR (Kd.R_mono (Kd.R_far (p := ⟨gb192, 3, none⟩) (Kd.R_types HO237.out BK192.out zb22) (fun _ hk => hk.2) (.slice Ao99 y235.length co99)) (fun _ h_ => h_.1))) zb22) hk (fun _ h => h.2)) (fun _ h => h.1)); replace BK192 := Aside0.mk (KeepBut.blk hk (g' := gb192) (o := .cells #[.int .i64 t177, .int .i64 t183, .int .i64 t189, .slice Ao99 y235.length co99] 34 (0, 0)) zb32 NB192_0.out zb26); replace HK := Aside0.mk (KeepBut.trans zb5 hk (.inl rfl)); replace HB := Aside0.mk hb; replace HI0 := Aside0.mk hi; (try clear hb); (try clear hb2); (try clear hk); (try clear hi); have hcz104_0 : w103.cell? ⟨gb192, 0, none⟩ = some (.int .i64 t177) := (blk_cell BK192.out 0).trans rfl; have hcz104_1 : w103.cell? ⟨gb192, 1, none⟩ = some (.int .i64 t183) := (blk_cell BK192.out 1).trans rfl; have hcz104_2 : w103.cell? ⟨gb192, 2, none⟩ = some (.int .i64 t189) := (blk_cell BK192.out 2).trans rfl; have hcz104_3 : w103.cell? ⟨gb192, 3, none⟩ = some (.slice Ao99 y235.length co99) := (blk_cell BK192.out 3).trans rfl; have hfz104_0 := blk_frozen BK192.out 0; have hfz104_1 := blk_frozen BK192.out 1; have hfz104_2 := blk_frozen BK192.out 2; have hfz104_3 := blk_frozen BK192.out 3) | ((with_reducible refine gate_builtin (b := .append) (xs := #[.tmp 56, .tmp 57]) rfl ?_); at_builtin; refine Kd.R_append Kd.string w.heap.size rfl (.tmp 56) (.tmp 57) 24 9 (.string ⟨#[]⟩) 16 rfl Tryz.underlying24 info9 rfl zb22 zb35 (.slice Ao99 y235.length co99) y235 (⟨#[102]⟩ : ByteArray) [.string (⟨#[102]⟩ : ByteArray)] (fun k_ => some k_ ≠ (u193003 : Value).ownBlock) (fun _ => False) rfl rfl ?aP (fun _ hk => hk.elim) ?aF ?aO (Below.refl _ _) ?aS ?aL ?_; (case aP => exact rfl); (case aF => exact (fun k_ hk => Kd.fresh' (Kd.R_lt (zR HO_193003.out)) k_ hk)); (case aO => exact (zR (Kd.R_mono HO237.out (fun _ hk => hk.2)))); (case aS => exact (keep_size (w := w) (g := g) (row := none) zb5)); (case aL => have := LMc95.out; omega); intro v242 w105 ho hb hg hat; rw [← Ny241.out] at ho; replace HO_193003 := Aside0.mk (Kd.R_after (ok := (fun _ => True)) (zR HO_193003.out) hg hat); replace BK173 := Aside0.mk (blk_grown (g := gb173) (o := .cells #[.int .i64 0, .int .i64 0, .int .i64 0, .slice none 0 0] 34 (0, 0)) (zB BK173.out) hg (Kd.R_ne HO237.out BK173.out zb22)); replace BK192 := Aside0.mk (blk_grown (g := gb192) (o := .cells #[.int .i64 t177, .int .i64 t183, .int .i64 t189, .slice Ao99 y235.length co99] 34 (0, 0)) (zB BK192.out) hg (Kd.R_ne HO237.out BK192.out zb22)); replace HB := Aside0.mk (below_weaken zb6 HL.out hb); replace HI0 := Aside0.mk (IsS55.grown zb0 hg (IsS55.own_ne HI0.out HO237.out zb22)); replace HK := Aside0.mk (KeepBut.trans zb5 (KeepBut.of_grown hg g) (Kd.R_base2 HO237.out)); have HO243 := Aside0.mk ho; clear HO237 ho hb hg hat; obtain ⟨Ao106, co106, eo106⟩ := Kd.R_slice HO243.out; subst eo106; have hcz107_0 : w105.cell? ⟨gb192, 0, none⟩ = some (.int .i64 t177) := (blk_cell BK192.out 0).trans rfl; have hcz107_1 : w105.cell? ⟨gb192, 1, none⟩ = some (.int .i64 t183) := (blk_cell BK192.out 1).trans rfl; have hcz107_2 : w105.cell? ⟨gb192, 2, none⟩ = some (.int .i64 t189) := (blk_cell BK192.out 2).trans rfl; have hcz107_3 : w105.cell? ⟨gb192, 3, none⟩ = some (.slice Ao99 y235.length co99) := (blk_cell BK192.out 3).trans rfl; have hfz107_0 := blk_frozen BK192.out 0; have hfz107_1 := blk_frozen BK192.out 1; have hfz107_2 := blk_frozen BK192.out 2; have hfz107_3 := blk_frozen BK192.out 3; have hnb108 := NB173_0.out; have hnc108 := NB0_173.out; have hcz109_0 : w105.cell? ⟨gb173, 0, none⟩ = some (.int .i64 0) := (blk_cell BK173.out 0).trans rfl; have hcz109_1 : w105.cell? ⟨gb173, 1, none⟩ = some (.int .i64 0) := (blk_cell BK173.out 1).trans rfl; have hcz109_2 : w105.cell? ⟨gb173, 2, none⟩ = some (.int .i64 0) := (blk_cell BK173.out 2).trans rfl; have hcz109_3 : w105.cell? ⟨gb173, 3, none⟩ = some (.slice none 0 0) := (blk_cell BK173.out 3).trans rfl; have hfz109_0 := blk_frozen BK173.out 0; have hfz109_1 := blk_frozen BK173.out 1; have hfz109_2 := blk_frozen BK173.out 2; have hfz109_3 := blk_frozen BK173.out 3))
        refine bodyPost_ret (results_cell_row rfl _ _ gb173 34 #[.int .i64 t177, .int .i64 t183, .int .i64 t189, .slice Ao106 y241.length co106] (0, 0) _ rfl zb20 Tryz.underlying34 rfl zb17) rfl ?_
        exact ⟨_, zb9, (zR (Kd.R_mono (Kd.R_far (p := ⟨gb173, 3, none⟩) (Kd.R_far (p := ⟨gb173, 2, none⟩) (Kd.R_far (p := ⟨gb173, 1, none⟩) (Kd.R_far (p := ⟨gb173, 0, none⟩) (Kd.R_far (p := ⟨gb192, 3, none⟩) (Kd.R_types (Kd.R_types HO243.out BK192.out zb22) BK173.out zb22) (fun _ hk => hk.1.2) (.slice Ao106 y241.length co106)) (fun _ hk => hk.2) (.int .i64 t177)) (fun _ hk => hk.2) (.int .i64 t183)) (fun _ hk => hk.2) (.int .i64 t189)) (fun _ hk => hk.2) (.slice Ao106 y241.length co106)) (fun _ hk => trivial))), zb0, zb6, zb5⟩
       ·rw [if_neg c95] at H
        exact absurd H zb26
      ·replace c94 := Bool.eq_false_iff.mpr c94
       subst c94
       rw [if_neg (show ¬ (false = true) by decide)] at H
       simp only [Option.some.injEq, Prod.mk.injEq] at H
       obtain ⟨rfl, rfl, rfl, rfl, rfl, rfl⟩ := H
       go_wp2_with (first | ((with_reducible refine gate_callee (f := 30) rfl ?_); refine goesL_ (some 32) rfl rfl Tryz.func30 zb17 rfl #[.pointer (some ⟨g, 0, none⟩), .int .i64 24] rfl zb4 ?_; (with_reducible refine (spec_l01Below.calls g s0_0 x1001_5 x1002_5 24 t217 t218 t219 w0 _ ?side1 ?side2 A61.out).mono ?_); (case side1 => exact zb0); (case side2 => exact zb6); rintro e w110 ⟨rfl, hi, hb, hk⟩; refine ⟨_, rfl, ?_⟩; replace HO_193003 := Aside0.mk (Kd.R_mono (Kd.R_keep (IsS55.apart (show IsS55 w0 _ g s0_0 x1001_5 x1002_5 from zb0) (zR HO_193003.out) zb22) hk (fun _ h => h.2)) (fun _ h => h.1)); replace BK173 := Aside0.mk (KeepBut.blk hk (g' := gb173) (o := .cells #[.int .i64 0, .int .i64 0, .int .i64 0, .slice none 0 0] 34 (0, 0)) (zB BK173.out) NB173_0.out zb26); replace BK192 := Aside0.mk (KeepBut.blk hk (g' := gb192) (o := .cells #[.int .i64 t177, .int .i64 t183, .int .i64 t189, u193003] 34 (0, 0)) (zB BK192.out) NB192_0.out zb26); replace HK := Aside0.mk (KeepBut.trans zb5 hk (.inl rfl)); replace HB := Aside0.mk hb; replace HI0 := Aside0.mk hi; (try clear hb); (try clear hb2); (try clear hk); (try clear hi)) | ((with_reducible refine gate_dst (N := 51) rfl ?_); refine Kd.R_lit Kd.string _ 9 ?hg (N := 51) ?hd (xs := ([(⟨#[97]⟩ : ByteArray), (⟨#[98]⟩ : ByteArray), (⟨#[99]⟩ : ByteArray), (⟨#[100]⟩ : ByteArray), (⟨#[101]⟩ : ByteArray)] : List ByteArray)) (inner := [.string (⟨#[97]⟩ : ByteArray), .string (⟨#[98]⟩ : ByteArray), .string (⟨#[99]⟩ : ByteArray), .string (⟨#[100]⟩ : ByteArray), .string (⟨#[101]⟩ : ByteArray)]) (ok := fun _ => True) (okp := fun _ => True) ?hr ?hp (fun _ hk => hk) trivial (Below.refl _ _) (Nat.le_refl _) zb26 ?_; (case hd => rfl); (case hg => rfl); (case hr => exact zb18); (case hp => exact zb15); intro v236 w111 ho112 hb hg_ hnew_; clear hg_ hnew_; (first | rw [← Ny235.out] at ho112 | (simp only [Int.reduceToNat] at ho112; rw [← Ny235.out] at ho112)); have HO237 := Aside0.mk (Kd.R_lower (Kd.R_new' ho112 (Kd.R_lt (zR HO_193003.out))) (keep_size (w := w) (g := g) (row := none) zb5)); replace HO_193003 := Aside0.mk (Kd.R_elder' (zR HO_193003.out) (Kd.R_base ho112) hb); replace BK173 := Aside0.mk (blk_below (g := gb173) (o := .cells #[.int .i64 0, .int .i64 0, .int .i64 0, .slice none 0 0] 34 (0, 0)) (zB BK173.out) hb); replace BK192 := Aside0.mk (blk_below (g := gb192) (o := .cells #[.int .i64 t177, .int .i64 t183, .int .i64 t189, u193003] 34 (0, 0)) (zB BK192.out) hb); replace HK := Aside0.mk (KeepBut.trans zb5 (KeepBut.of_below hb g none) (.inl rfl)); replace HB := Aside0.mk (below_step zb6 hb); replace HI0 := Aside0.mk (IsS55.below zb0 hb); clear hb ho112; obtain ⟨Ao113, co113, eo113⟩ := Kd.R_slice HO237.out; subst eo113; have hnb114 := NB192_173.out; have hnc114 := NB173_192.out; have hnb115 := NB192_0.out; have hnc115 := NB0_192.out; have hcz116_0 : w111.cell? ⟨gb192, 0, none⟩ = some (.int .i64 t177) := (blk_cell BK192.out 0).trans rfl; have hcz116_1 : w111.cell? ⟨gb192, 1, none⟩ = some (.int .i64 t183) := (blk_cell BK192.out 1).trans rfl; have hcz116_2 : w111.cell? ⟨gb192, 2, none⟩ = some (.int .i64 t189) := (blk_cell BK192.out 2).trans rfl; have hcz116_3 : w111.cell? ⟨gb192, 3, none⟩ = some (u193003) := (blk_cell BK192.out 3).trans rfl; have hfz116_0 := blk_frozen BK192.out 0; have hfz116_1 := blk_frozen BK192.out 1; have hfz116_2 := blk_frozen BK192.out 2; have hfz116_3 := blk_frozen BK192.out 3) | ((with_reducible refine gate_callee (f := 35) rfl ?_); refine goesL_ (some 54) rfl rfl Tryz.func35 zb17 rfl #[.pointer (some ⟨g, 0, none⟩), .int .i64 2] rfl zb4 ?_; (with_reducible refine (spec_l01Once.calls g s0_0 t218 t219 2 false t239 t240 w0 _ ?side1 ?side2 A93.out).mono ?_); (case side1 => exact zb0); (case side2 => exact zb6); rintro e w117 ⟨rfl, hi, hb, hk⟩; refine ⟨_, rfl, ?_⟩; replace HO_193003 := Aside0.mk (Kd.R_mono (Kd.R_keep (IsS55.apart (show IsS55 w0 _ g s0_0 t218 t219 from zb0) (zR (Kd.R_mono (Kd.R_far (p := ⟨gb192, 3, none⟩) (Kd.R_types HO_193003.out BK192.out zb22) (fun _ hk => hk.2) (.slice Ao113 y235.length co113)) (fun _ h_ => h_.1))) zb22) hk (fun _ h => h.2)) (fun _ h => h.1)); replace BK173 := Aside0.mk (KeepBut.blk hk (g' := gb173) (o := .cells #[.int .i64 0, .int .i64 0, .int .i64 0, .slice none 0 0] 34 (0, 0)) zb21 NB173_0.out zb26); replace HO237 := Aside0.mk (Kd.R_mono (Kd.R_keep (IsS55.apart (show IsS55 w0 _ g s0_0 t218 t219 from zb0) (zR (Kd.R_mono (Kd.R_far (p := ⟨gb192, 3, none⟩) (Kd.R_types HO237.out BK192.out zb22) (fun _ hk => hk.2) (.slice Ao113 y235.length co113)) (fun _ h_ => h_.1))) zb22) hk (fun _ h => h.2)) (fun _ h => h.1)); replace BK192 := Aside0.mk (KeepBut.blk hk (g' := gb192) (o := .cells #[.int .i64 t177, .int .i64 t183, .int .i64 t189, .slice Ao113 y235.length co113] 34 (0, 0)) zb32 NB192_0.out zb26); replace HK := Aside0.mk (KeepBut.trans zb5 hk (.inl rfl)); replace HB := Aside0.mk hb; replace HI0 := Aside0.mk hi; (try clear hb); (try clear hb2); (try clear hk); (try clear hi); have hcz118_0 : w117.cell? ⟨gb192, 0, none⟩ = some (.int .i64 t177) := (blk_cell BK192.out 0).trans rfl; have hcz118_1 : w117.cell? ⟨gb192, 1, none⟩ = some (.int .i64 t183) := (blk_cell BK192.out 1).trans rfl; have hcz118_2 : w117.cell? ⟨gb192, 2, none⟩ = some (.int .i64 t189) := (blk_cell BK192.out 2).trans rfl; have hcz118_3 : w117.cell? ⟨gb192, 3, none⟩ = some (.slice Ao113 y235.length co113) := (blk_cell BK192.out 3).trans rfl; have hfz118_0 := blk_frozen BK192.out 0; have hfz118_1 := blk_frozen BK192.out 1; have hfz118_2 := blk_frozen BK192.out 2; have hfz118_3 := blk_frozen BK192.out 3; have hnb119 := NB173_0.out; have hnc119 := NB0_173.out; have hcz120_0 : w117.cell? ⟨gb173, 0, none⟩ = some (.int .i64 0) := (blk_cell BK173.out 0).trans rfl; have hcz120_1 : w117.cell? ⟨gb173, 1, none⟩ = some (.int .i64 0) := (blk_cell BK173.out 1).trans rfl; have hcz120_2 : w117.cell? ⟨gb173, 2, none⟩ = some (.int .i64 0) := (blk_cell BK173.out 2).trans rfl; have hcz120_3 : w117.cell? ⟨gb173, 3, none⟩ = some (.slice none 0 0) := (blk_cell BK173.out 3).trans rfl; have hfz120_0 := blk_frozen BK173.out 0; have hfz120_1 := blk_frozen BK173.out 1; have hfz120_2 := blk_frozen BK173.out 2; have hfz120_3 := blk_frozen BK173.out 3))
       refine bodyPost_ret (results_cell_row rfl _ _ gb173 34 #[.int .i64 t177, .int .i64 t183, .int .i64 t189, .slice Ao113 y235.length co113] (0, 0) _ rfl zb23 Tryz.underlying34 rfl zb17) rfl ?_
       exact ⟨_, zb9, (zR (Kd.R_mono (Kd.R_far (p := ⟨gb173, 3, none⟩) (Kd.R_far (p := ⟨gb173, 2, none⟩) (Kd.R_far (p := ⟨gb173, 1, none⟩) (Kd.R_far (p := ⟨gb173, 0, none⟩) (Kd.R_types HO237.out BK173.out zb22) (fun _ hk => hk.2) (.int .i64 t177)) (fun _ hk => hk.2) (.int .i64 t183)) (fun _ hk => hk.2) (.int .i64 t189)) (fun _ hk => hk.2) (.slice Ao113 y235.length co113)) (fun _ hk => trivial))), zb0, zb6, zb5⟩
     ·rw [if_neg c92] at H
      have c92b0 : (t217 == 2) = false := beq_eq_false_iff_ne.mpr c92
      have c92b1 : (t217 != 2) = true := bne_iff_ne.mpr c92
      simp only [Option.some.injEq, Prod.mk.injEq] at H
      obtain ⟨rfl, rfl, rfl, rfl, rfl, rfl⟩ := H
      go_wp2_with (first | ((with_reducible refine gate_callee (f := 30) rfl ?_); refine goesL_ (some 32) rfl rfl Tryz.func30 zb17 rfl #[.pointer (some ⟨g, 0, none⟩), .int .i64 24] rfl zb4 ?_; (with_reducible refine (spec_l01Below.calls g s0_0 x1001_5 x1002_5 24 t217 t218 t219 w0 _ ?side1 ?side2 A61.out).mono ?_); (case side1 => exact zb0); (case side2 => exact zb6); rintro e w121 ⟨rfl, hi, hb, hk⟩; refine ⟨_, rfl, ?_⟩; replace HO_193003 := Aside0.mk (Kd.R_mono (Kd.R_keep (IsS55.apart (show IsS55 w0 _ g s0_0 x1001_5 x1002_5 from zb0) (zR HO_193003.out) zb22) hk (fun _ h => h.2)) (fun _ h => h.1)); replace BK173 := Aside0.mk (KeepBut.blk hk (g' := gb173) (o := .cells #[.int .i64 0, .int .i64 0, .int .i64 0, .slice none 0 0] 34 (0, 0)) (zB BK173.out) NB173_0.out zb26); replace BK192 := Aside0.mk (KeepBut.blk hk (g' := gb192) (o := .cells #[.int .i64 t177, .int .i64 t183, .int .i64 t189, u193003] 34 (0, 0)) (zB BK192.out) NB192_0.out zb26); replace HK := Aside0.mk (KeepBut.trans zb5 hk (.inl rfl)); replace HB := Aside0.mk hb; replace HI0 := Aside0.mk hi; (try clear hb); (try clear hb2); (try clear hk); (try clear hi); have hnb122 := NB192_173.out; have hnc122 := NB173_192.out; have hnb123 := NB192_0.out; have hnc123 := NB0_192.out; have hcz124_0 : w121.cell? ⟨gb192, 0, none⟩ = some (.int .i64 t177) := (blk_cell BK192.out 0).trans rfl; have hcz124_1 : w121.cell? ⟨gb192, 1, none⟩ = some (.int .i64 t183) := (blk_cell BK192.out 1).trans rfl; have hcz124_2 : w121.cell? ⟨gb192, 2, none⟩ = some (.int .i64 t189) := (blk_cell BK192.out 2).trans rfl; have hcz124_3 : w121.cell? ⟨gb192, 3, none⟩ = some (u193003) := (blk_cell BK192.out 3).trans rfl; have hfz124_0 := blk_frozen BK192.out 0; have hfz124_1 := blk_frozen BK192.out 1; have hfz124_2 := blk_frozen BK192.out 2; have hfz124_3 := blk_frozen BK192.out 3; have hnb125 := NB173_0.out; have hnc125 := NB0_173.out; have hcz126_0 : w121.cell? ⟨gb173, 0, none⟩ = some (.int .i64 0) := (blk_cell BK173.out 0).trans rfl; have hcz126_1 : w121.cell? ⟨gb173, 1, none⟩ = some (.int .i64 0) := (blk_cell BK173.out 1).trans rfl; have hcz126_2 : w121.cell? ⟨gb173, 2, none⟩ = some (.int .i64 0) := (blk_cell BK173.out 2).trans rfl; have hcz126_3 : w121.cell? ⟨gb173, 3, none⟩ = some (.slice none 0 0) := (blk_cell BK173.out 3).trans rfl; have hfz126_0 := blk_frozen BK173.out 0; have hfz126_1 := blk_frozen BK173.out 1; have hfz126_2 := blk_frozen BK173.out 2; have hfz126_3 := blk_frozen BK173.out 3; obtain ⟨Ao127, co127, eo127⟩ := Kd.R_slice HO_193003.out; subst eo127))
      refine bodyPost_ret (results_cell_row rfl _ _ gb173 34 #[.int .i64 t177, .int .i64 t183, .int .i64 t189, .slice Ao127 x193003_5.length co127] (0, 0) _ rfl zb23 Tryz.underlying34 rfl zb17) rfl ?_
      exact ⟨_, zb9, (zR (Kd.R_mono (Kd.R_far (p := ⟨gb173, 3, none⟩) (Kd.R_far (p := ⟨gb173, 2, none⟩) (Kd.R_far (p := ⟨gb173, 1, none⟩) (Kd.R_far (p := ⟨gb173, 0, none⟩) (Kd.R_types HO_193003.out BK173.out zb22) (fun _ hk => hk.2) (.int .i64 t177)) (fun _ hk => hk.2) (.int .i64 t183)) (fun _ hk => hk.2) (.int .i64 t189)) (fun _ hk => hk.2) (.slice Ao127 x193003_5.length co127)) (fun _ hk => trivial))), zb0, zb6, zb5⟩
set_option maxHeartbeats 8000000 in
set_option maxRecDepth 100000 in
theorem spec_l03Parts.calls (k : Nat) (a0 : ByteArray) (r : List ByteArray) (w : World) (h : spec_l03Parts.f k a0 = some r) :
  Calls Tryz.prog 57 #[.string a0] w fun e w' => ∃ v0_ : Value, e = .returned (v0_) ∧ Kd.R Kd.string 9 w' w.heap.size (fun _ => True) v0_ r ∧ Below w.heap.size w w' := by
 have HB := Aside0.mk (Below.refl w.heap.size w)
 have H : (spec_l03Parts.l0 k a0 (([] : List ByteArray)) 0 0) = some r := h
 clear h
 obtain ⟨y268, hy268⟩ : ∃ y_ : List ByteArray, y_ = (([] : List ByteArray)) := ⟨_, rfl⟩
 replace H : (spec_l03Parts.l0 k a0 y268 0 0) = some r := by first | (rw [hy268]; with_reducible exact H) | (have H2_ := (Option.bind_some _ _).symm.trans H; rw [hy268]; with_reducible exact H2_) | (have H2_ := (Option.bind_some _ _).symm.trans H; with_reducible exact H2_) | with_reducible exact H | (rw [hy268]; exact H) | exact H
 have Ny268 := Aside0.mk hy268
 clear hy268
 have H' := Aside0.mk H
 clear H
 go_enter Tryz.func57, Tryz.ntmps57
 go_wp2_with (first | ((with_reducible refine gate_dst (N := 6) rfl ?_); refine Kd.R_lit Kd.string _ 9 ?hg (N := 6) ?hd (xs := ([] : List ByteArray)) (inner := []) (ok := fun _ => True) (okp := fun _ => True) ?hr ?hp (fun _ hk => hk) trivial (Below.refl _ _) (Nat.le_refl _) zb26 ?_; (case hd => rfl); (case hg => rfl); (case hr => exact zb18); (case hp => exact (Reps.none _ _)); intro v269 w2 ho3 hb hg_ hnew_; clear hg_ hnew_; (first | rw [← Ny268.out] at ho3 | (simp only [Int.reduceToNat] at ho3; rw [← Ny268.out] at ho3)); have HO270 := Aside0.mk (Kd.R_lower ho3 (below_size zb7)); replace HB := Aside0.mk (below_step zb7 hb); clear hb ho3))
 go_loopg [3, 4, 5] k (fun kq v3 v4 v5 w' => ∃ (x3_1 : List ByteArray) (x4_1 : Int) (x5_1 : Int), v4 = .int .i64 x4_1 ∧ v5 = .int .i64 x5_1 ∧ Aside0 (spec_l03Parts.l0 kq a0 x3_1 x4_1 x5_1 = some r) ∧ Aside0 (kq ≤ k) ∧ Aside0 (Kd.R Kd.string 9 w' w.heap.size (fun _ => True) v3 x3_1) ∧ Aside0 (Below w.heap.size w w'))
 case atStart => exact ⟨(y268), (0), (0), zb10, zb10, H', ⟨Nat.le_refl _⟩, ⟨(zR HO270.out)⟩, ⟨zb7⟩⟩
 case round =>
  clear H'
  try clear p2
  obtain ⟨x3_1, x4_1, x5_1, rfl, rfl, HA, HK1, HO_3, HB⟩ := hrel
  cases gk with
  | zero => exact absurd HA.out (by simp [spec_l03Parts.l0])
  | succ k1 =>
   have H := HA.out
   clear HA
   simp only [spec_l03Parts.l0] at H
   by_cases c4 : (wrap64 (x5_1 + 4)) ≤ (a0.size : Int)
   ·rw [if_pos c4] at H
    have c4b0 : decide ((wrap64 (x5_1 + 4)) ≤ (a0.size : Int)) = true := decide_eq_true c4
    clear c4
    by_cases c5 : x5_1 ≥ x4_1
    ·rw [if_pos c5] at H
     have c5b0 : decide (x4_1 ≤ x5_1) = true := decide_eq_true c5
     clear c5
     by_cases c6 : 0 ≤ x5_1
     ·rw [if_pos c6] at H
      have c6b0 := eq_true c6
      have c6b1 : decide (0 ≤ x5_1) = true := decide_eq_true c6
      clear c6
      by_cases c7 : x5_1 ≤ (wrap64 (x5_1 + 4))
      ·rw [if_pos c7] at H
       have c7b0 := eq_true c7
       have c7b1 : decide (x5_1 ≤ (wrap64 (x5_1 + 4))) = true := decide_eq_true c7
       have c8b0 := eq_true (of_decide_eq_true zb19 : (wrap64 (x5_1 + 4)) ≤ (a0.size : Int))
       obtain ⟨js9, hjs9⟩ : ∃ j_ : ByteArray, (a0.extract (x5_1 : Int).toNat ((wrap64 (x5_1 + 4)) : Int).toNat) = j_ := ⟨_, rfl⟩
       replace H : (if (js9).toList = ([32, 124, 124, 32] : List UInt8) then (if 0 ≤ x4_1 then (if x4_1 ≤ x5_1 then (if x5_1 ≤ (a0.size : Int) then (if x3_1.length < 8796093022208 then (spec_l03Parts.l0 k1 a0 (x3_1 ++ [a0.extract (x4_1 : Int).toNat (x5_1 : Int).toNat]) (wrap64 (x5_1 + 4)) (wrap64 (x5_1 + 1))) else (none)) else (none)) else (none)) else (none)) else (spec_l03Parts.l0 k1 a0 x3_1 x4_1 (wrap64 (x5_1 + 1)))) = some r := by first | (rw [hjs9] at H; exact H) | (simp only [hjs9] at H ⊢; exact H)
       by_cases c10 : (js9).toList = ([32, 124, 124, 32] : List UInt8)
       ·rw [if_pos c10] at H
        have c10b0 : ((js9).toList == ([32, 124, 124, 32] : List UInt8)) = true := beq_iff_eq.mpr c10
        have c10b1 : ((js9).toList != ([32, 124, 124, 32] : List UInt8)) = false := bne_eq_false_iff_eq.mpr c10
        clear c10
        by_cases c11 : 0 ≤ x4_1
        ·rw [if_pos c11] at H
         have c11b0 := eq_true c11
         have c11b1 : decide (0 ≤ x4_1) = true := decide_eq_true c11
         clear c11
         by_cases c12 : x4_1 ≤ x5_1
         ·rw [if_pos c12] at H
          have c12b0 := eq_true c12
          have c12b1 : decide (x4_1 ≤ x5_1) = true := decide_eq_true c12
          clear c12
          by_cases c13 : x5_1 ≤ (a0.size : Int)
          ·rw [if_pos c13] at H
           have c13b0 := eq_true c13
           have c13b1 : decide (x5_1 ≤ (a0.size : Int)) = true := decide_eq_true c13
           clear c13
           obtain ⟨js14, hjs14⟩ : ∃ j_ : ByteArray, (a0.extract (x4_1 : Int).toNat (x5_1 : Int).toNat) = j_ := ⟨_, rfl⟩
           replace H : (if x3_1.length < 8796093022208 then (spec_l03Parts.l0 k1 a0 (x3_1 ++ [js14]) (wrap64 (x5_1 + 4)) (wrap64 (x5_1 + 1))) else (none)) = some r := by first | (rw [hjs14] at H; exact H) | (simp only [hjs14] at H ⊢; exact H)
           by_cases c15 : x3_1.length < 8796093022208
           ·rw [if_pos c15] at H
            have LMc15 := Aside0.mk c15
            clear c15
            obtain ⟨y271, hy271⟩ : ∃ y_ : List ByteArray, y_ = (x3_1 ++ [js14]) := ⟨_, rfl⟩
            replace H : (spec_l03Parts.l0 k1 a0 y271 (wrap64 (x5_1 + 4)) (wrap64 (x5_1 + 1))) = some r := by first | (rw [hy271]; with_reducible exact H) | (have H2_ := (Option.bind_some _ _).symm.trans H; rw [hy271]; with_reducible exact H2_) | (have H2_ := (Option.bind_some _ _).symm.trans H; with_reducible exact H2_) | with_reducible exact H | (rw [hy271]; exact H) | exact H
            have Ny271 := Aside0.mk hy271
            clear hy271
            have H' := Aside0.mk H
            clear H
            go_wp2_with (first | ((with_reducible refine gate_builtin (b := .append) (xs := #[.tmp 25, .tmp 30]) rfl ?_); at_builtin; refine Kd.R_append Kd.string (w0 := w) w.heap.size rfl (.tmp 25) (.tmp 30) 24 9 (.string ⟨#[]⟩) 16 rfl Tryz.underlying24 info9 rfl zb22 zb35 u3 x3_1 js14 [.string js14] (fun _ => True) (fun _ => False) rfl rfl ?aP (fun _ hk => hk.elim) ?aF ?aO ?aB ?aS ?aL ?_; (case aP => exact rfl); (case aB => exact zb7); (case aF => exact (fun _ _ => trivial)); (case aO => exact (zR HO_3.out)); (case aS => exact (below_size zb7)); (case aL => have := LMc15.out; omega); intro v272 w16 ho hb hg hat; rw [← Ny271.out] at ho; replace HB := Aside0.mk hb; have HO273 := Aside0.mk ho; clear HO_3 ho hb hg hat))
            go_roundg k1
            case measure => have := HK1.out; omega
            case rel => exact ⟨(y271), (wrap64 (x5_1 + 4)), (wrap64 (x5_1 + 1)), zb10, zb10, H', ⟨by have := HK1.out; omega⟩, ⟨(zR HO273.out)⟩, ⟨zb7⟩⟩
           ·rw [if_neg c15] at H
            exact absurd H zb26
          ·rw [if_neg c13] at H
           exact absurd H zb26
         ·rw [if_neg c12] at H
          exact absurd H zb26
        ·rw [if_neg c11] at H
         exact absurd H zb26
       ·rw [if_neg c10] at H
        have c10b0 : ((js9).toList == ([32, 124, 124, 32] : List UInt8)) = false := beq_eq_false_iff_ne.mpr c10
        have c10b1 : ((js9).toList != ([32, 124, 124, 32] : List UInt8)) = true := bne_iff_ne.mpr c10
        have H' := Aside0.mk H
        clear H
        go_wp2
        go_roundg k1
        case measure => have := HK1.out; omega
        case rel => exact ⟨(x3_1), (x4_1), (wrap64 (x5_1 + 1)), zb10, zb10, H', ⟨by have := HK1.out; omega⟩, ⟨(zR HO_3.out)⟩, ⟨zb7⟩⟩
      ·rw [if_neg c7] at H
       exact absurd H zb26
     ·rw [if_neg c6] at H
      exact absurd H zb26
    ·rw [if_neg c5] at H
     have c5b0 : decide (x4_1 ≤ x5_1) = false := decide_eq_false c5
     clear c5
     have H' := Aside0.mk H
     clear H
     go_wp2
     go_roundg k1
     case measure => have := HK1.out; omega
     case rel => exact ⟨(x3_1), (x4_1), (wrap64 (x5_1 + 1)), zb10, zb10, H', ⟨by have := HK1.out; omega⟩, ⟨(zR HO_3.out)⟩, ⟨zb7⟩⟩
   ·rw [if_neg c4] at H
    have c4b0 : decide ((wrap64 (x5_1 + 4)) ≤ (a0.size : Int)) = false := decide_eq_false c4
    clear c4
    by_cases c17 : 0 ≤ x4_1
    ·rw [if_pos c17] at H
     have c17b0 := eq_true c17
     have c17b1 : decide (0 ≤ x4_1) = true := decide_eq_true c17
     clear c17
     by_cases c18 : x4_1 ≤ (a0.size : Int)
     ·rw [if_pos c18] at H
      have c18b0 := eq_true c18
      have c18b1 : decide (x4_1 ≤ (a0.size : Int)) = true := decide_eq_true c18
      clear c18
      obtain ⟨js19, hjs19⟩ : ∃ j_ : ByteArray, (a0.extract (x4_1 : Int).toNat a0.size) = j_ := ⟨_, rfl⟩
      replace H : (if x3_1.length < 8796093022208 then (some (x3_1 ++ [js19])) else (none)) = some r := by first | (rw [hjs19] at H; exact H) | (simp only [hjs19] at H ⊢; exact H)
      by_cases c20 : x3_1.length < 8796093022208
      ·rw [if_pos c20] at H
       have LMc20 := Aside0.mk c20
       clear c20
       obtain ⟨y274, hy274⟩ : ∃ y_ : List ByteArray, y_ = (x3_1 ++ [js19]) := ⟨_, rfl⟩
       replace H : (some y274) = some r := by first | (rw [hy274]; with_reducible exact H) | (have H2_ := (Option.bind_some _ _).symm.trans H; rw [hy274]; with_reducible exact H2_) | (have H2_ := (Option.bind_some _ _).symm.trans H; with_reducible exact H2_) | with_reducible exact H | (rw [hy274]; exact H) | exact H
       have Ny274 := Aside0.mk hy274
       clear hy274
       obtain rfl := Option.some.inj H
       go_wp2_with (first | ((with_reducible refine gate_builtin (b := .append) (xs := #[.tmp 34, .tmp 38]) rfl ?_); at_builtin; refine Kd.R_append Kd.string (w0 := w) w.heap.size rfl (.tmp 34) (.tmp 38) 24 9 (.string ⟨#[]⟩) 16 rfl Tryz.underlying24 info9 rfl zb22 zb35 u3 x3_1 js19 [.string js19] (fun _ => True) (fun _ => False) rfl rfl ?aP (fun _ hk => hk.elim) ?aF ?aO ?aB ?aS ?aL ?_; (case aP => exact rfl); (case aB => exact zb7); (case aF => exact (fun _ _ => trivial)); (case aO => exact (zR HO_3.out)); (case aS => exact (below_size zb7)); (case aL => have := LMc20.out; omega); intro v275 w21 ho hb hg hat; rw [← Ny274.out] at ho; replace HB := Aside0.mk hb; have HO276 := Aside0.mk ho; clear HO_3 ho hb hg hat))
       go_ret
       exact ⟨_, (by first | rfl | (simp [errW_none, errW_some] <;> rfl) | (simp only [← hjs19]; first | rfl | (simp [errW_none, errW_some] <;> rfl)) | (simp [*, errW_none, errW_some] <;> rfl)), (zR HO276.out), zb7⟩
      ·rw [if_neg c20] at H
       exact absurd H zb26
     ·rw [if_neg c18] at H
      exact absurd H zb26
    ·rw [if_neg c17] at H
     exact absurd H zb26
end Go.Proofs.YtoidompkofomjaaGreatDoor.G

end
section
namespace Go.Proofs.YtoidompkofomjaaGreatDoor.U
open Go Go.RowKit Go.Proofs.YtoidompkofomjaaGreatDoorW.PrintWords
set_option linter.unusedVariables false
set_option linter.unusedSimpArgs false
abbrev B := List UInt8
def L (s : ByteArray) : B := s.data.toList
def S (l : B) : ByteArray := ⟨l.toArray⟩
def I (l : B) : List Int := l.map fun b => (b.toNat : Int)
@[simp] theorem L_S (l : B) : L (S l) = l := by simp [L, S]
@[simp] theorem S_L (s : ByteArray) : S (L s) = s := rfl
theorem L_inj {s t : ByteArray} (h : L s = L t) : s = t := by rw [← S_L s, ← S_L t, h]
theorem size_L (s : ByteArray) : s.size = (L s).length := Go.Lib.size_eq s
@[simp] theorem size_S (l : B) : (S l).size = l.length := by rw [size_L, L_S]
theorem toList_L (s : ByteArray) : s.toList = L s := Go.Lib.toList_data s
@[simp] theorem toList_S (l : B) : (S l).toList = l := by rw [toList_L, L_S]
@[simp] theorem L_append (s t : ByteArray) : L (s ++ t) = L s ++ L t := by simp [L, ByteArray.data_append]
@[simp] theorem S_append (l m : B) : S l ++ S m = S (l ++ m) := L_inj (by simp)
theorem L_extract (s : ByteArray) (a b : Nat) : L (s.extract a b) = ((L s).drop a).take (b - a) := Go.Lib.extract_data s a b
@[simp] theorem I_length (l : B) : (I l).length = l.length := by simp [I]
@[simp] theorem I_nil : I [] = [] := rfl
@[simp] theorem str_I (l : B) : strOfNums (I l) = S l := by
  unfold strOfNums I S
  rw [List.map_map]
  congr 2
  have e : ((fun n : Int => UInt8.ofNat n.toNat) ∘ fun b : UInt8 => (b.toNat : Int)) = id := by funext b; simp
  rw [e, List.map_id]
@[simp] theorem str_nil : strOfNums [] = S [] := rfl
theorem bt_S (l : B) (i : Int) (h : i.toNat < l.length) : bt (S l) i = ((l[i.toNat]).toNat : Int) := by
  have h' : i.toNat < (S l).size := by simpa using h
  rw [← bt_at (S l) i h']
  rfl
theorem bt_L (s : ByteArray) (i : Int) (h : i.toNat < (L s).length) : bt s i = (((L s)[i.toNat]).toNat : Int) := by
  have := bt_S (L s) i h
  rwa [S_L] at this
def at_ (l : B) (i : Nat) : UInt8 := l.getD i 0
theorem at_eq (l : B) (i : Nat) (h : i < l.length) : at_ l i = l[i] := by simp [at_, h]
theorem bt_at_ (s : ByteArray) (i : Int) : bt s i = ((at_ (L s) i.toNat).toNat : Int) := by
  by_cases h : i.toNat < (L s).length
  · rw [bt_L s i h, at_eq _ _ h]
  · have h2 : ¬ i.toNat < s.size := by rw [size_L]; exact h
    have h3 : at_ (L s) i.toNat = 0 := by simp [at_, List.getD_eq_getElem?_getD, List.getElem?_eq_none (Nat.le_of_not_lt h)]
    rw [h3]; unfold bt; rw [dif_neg h2]; rfl
theorem bt_nat (s : ByteArray) (i : Nat) : bt s (i : Int) = ((at_ (L s) i).toNat : Int) := bt_at_ s i
theorem byte_lt (c : UInt8) : (c.toNat : Int) < 256 := by have := c.toNat_lt; omega
theorem byte_inj {c d : UInt8} (h : (c.toNat : Int) = (d.toNat : Int)) : c = d := UInt8.toNat_inj.1 (by omega)
theorem drop_at (l : B) (i : Nat) (h : i < l.length) : l.drop i = at_ l i :: l.drop (i + 1) := by
  rw [at_eq l i h]; exact List.drop_eq_getElem_cons h
theorem take_at (l : B) (i : Nat) (h : i < l.length) : l.take (i + 1) = l.take i ++ [at_ l i] := by
  rw [at_eq l i h, List.take_succ_eq_append_getElem h]
theorem w64 {n : Int} (h0 : -9223372036854775808 ≤ n) (h1 : n ≤ 9223372036854775807) : wrap64 n = n := by unfold wrap64; omega
theorem ev_ite_pos {α : Type} {c : Nat → Prop} [∀ k, Decidable (c k)] {g f : Nat → Option α} {r : α} (hc : ∀ k, c k) (h : Ev g r) : Ev (fun k => if c k then g k else f k) r := Ev.congr (fun k => by rw [if_pos (hc k)]) h
theorem ev_ite_neg {α : Type} {c : Nat → Prop} [∀ k, Decidable (c k)] {g f : Nat → Option α} {r : α} (hc : ∀ k, ¬ c k) (h : Ev f r) : Ev (fun k => if c k then g k else f k) r := Ev.congr (fun k => by rw [if_neg (hc k)]) h
theorem ev_pos {α : Type} {c : Prop} [Decidable c] {g f : Nat → Option α} {r : α} (hc : c) (h : Ev g r) : Ev (fun k => if c then g k else f k) r := ev_ite_pos (fun _ => hc) h
theorem ev_neg {α : Type} {c : Prop} [Decidable c] {g f : Nat → Option α} {r : α} (hc : ¬ c) (h : Ev f r) : Ev (fun k => if c then g k else f k) r := ev_ite_neg (fun _ => hc) h
theorem ev_some {α β : Type} {a : α} {f : Nat → α → Option β} {r : β} (h : Ev (fun k => f k a) r) : Ev (fun k => (some a).bind (f k)) r := h
theorem ev_const {α β : Type} {g : Option α} {a : α} (hg : g = some a) {f : Nat → α → Option β} {r : β} (h : Ev (fun k => f k a) r) : Ev (fun k => g.bind (f k)) r := by subst hg; exact h
theorem ev_use {α : Type} {g : Nat → Option α} {a b : α} (h : Ev g a) (e : a = b) : Ev g b := e ▸ h
theorem loop_up {σ α : Type} (g : Nat → Int → σ → Option α) (n : Nat) (Inv : Nat → σ → Prop) (res : Nat → σ → α)
    (hend : ∀ st, Inv n st → Ev (fun k => g k (n : Int) st) (res n st))
    (hstep : ∀ i st, i < n → Inv i st → (∀ st', Inv (i + 1) st' → Ev (fun k => g k ((i + 1 : Nat) : Int) st') (res (i + 1) st')) → Ev (fun k => g k (i : Int) st) (res i st)) :
    ∀ i st, i ≤ n → Inv i st → Ev (fun k => g k (i : Int) st) (res i st) := by
  intro i st hi
  obtain ⟨d, hd⟩ : ∃ d, i + d = n := ⟨n - i, by omega⟩
  clear hi
  induction d generalizing i st with
  | zero => intro h; have e : i = n := by omega
            subst e; exact hend st h
  | succ d ih => intro h; exact hstep i st (by omega) h fun st' h' => ih (i + 1) st' (by omega) h'
theorem inc (i : Nat) (h : i < 9223372036854775807) : wrap64 ((i : Int) + 1) = ((i + 1 : Nat) : Int) := by rw [w64 (by omega) (by omega)]; omega
theorem wa1 (j : Nat) (h : j ≤ 1125899906842624) : wrap64 ((j : Int) + 1) = ((j + 1 : Nat) : Int) := by rw [w64 (by omega) (by omega)]; omega
theorem wa4 (j : Nat) (h : j ≤ 1125899906842624) : wrap64 ((j : Int) + 4) = ((j + 4 : Nat) : Int) := by rw [w64 (by omega) (by omega)]; omega
theorem all_bytes {p : UInt8 → Prop} (h : ∀ n, n < 256 → p (UInt8.ofNat n)) (c : UInt8) : p c := by
  have := h c.toNat c.toNat_lt
  rwa [UInt8.ofNat_toNat] at this
def szOut (left w : Int) : Int := if w ≤ left then left - w else -1
theorem szOut_neg {left w : Int} (h : left < w) : szOut left w = -1 := by unfold szOut; rw [if_neg (by omega)]
theorem szOut_pos {left w : Int} (h : w ≤ left) : szOut left w = left - w := by unfold szOut; rw [if_pos h]
def Room (x : Int) : Prop := 0 ≤ x ∧ x ≤ 1048576
theorem room_sub {left : Int} {n : Nat} (hl : Room left) (hn : n ≤ maxLen) : wrap64 (left - (n : Int)) = left - n := by
  unfold Room at hl; exact w64 (by unfold maxLen at hn; omega) (by omega)
theorem szOut_add {left v w : Int} (hv : 0 ≤ v) (hw : 0 ≤ w) (h : v ≤ left) : szOut (left - v) w = szOut left (v + w) := by
  unfold szOut; by_cases h1 : w ≤ left - v
  · rw [if_pos h1, if_pos (by omega)]; omega
  · rw [if_neg h1, if_neg (by omega)]
def Sz (g : Nat → Int → Option Int) (w : Int) : Prop := 0 ≤ w ∧ ∀ left, Room left → Ev (fun k => g k left) (szOut left w)
def sumW {α : Type} (w : α → Int) : List α → Int
  | [] => 0
  | x :: l => w x + sumW w l
def wList {α : Type} (w : α → Int) (l : List α) : Int := l.length + sumW w l
theorem getD_mem {α : Type} (l : List α) (i : Nat) (z : α) (h : i < l.length) : l.getD i z ∈ l := by
  rw [List.getD_eq_getElem?_getD, List.getElem?_eq_getElem h]; exact List.getElem_mem h
theorem drop_getD {α : Type} (l : List α) (i : Nat) (z : α) (h : i < l.length) : l.drop i = l.getD i z :: l.drop (i + 1) := by
  rw [List.getD_eq_getElem?_getD, List.getElem?_eq_getElem h]; exact List.drop_eq_getElem_cons h
def w_StringS (l : List ByteArray) : Int := wList (fun s => (s.size : Int)) l
end Go.Proofs.YtoidompkofomjaaGreatDoor.U

end
section
namespace Go.Proofs.YtoidompkofomjaaGreatDoor.U
open Go Go.RowKit Go.Proofs.YtoidompkofomjaaGreatDoorW.PrintWords Go.Proofs.YtoidompkofomjaaGreatDoor.G
set_option linter.unusedVariables false
def digits0 : ByteArray := ⟨#[48, 49, 50, 51, 52, 53, 54, 55, 56, 57]⟩
theorem digit_at (i : Nat) (h : i < 10) : digits0.extract i (i + 1) = S [UInt8.ofNat (48 + i)] := by
  apply L_inj
  rw [L_extract, L_S]
  have : ∀ j : Fin 10, ((L digits0).drop j.1).take (j.1 + 1 - j.1) = [UInt8.ofNat (48 + j.1)] := by decide
  exact this ⟨i, h⟩
def dig (u : Nat) : B := if u = 0 then [] else Lib.decDigits u
theorem dig_step (u : Nat) (h : u ≠ 0) : dig u = dig (u / 10) ++ [UInt8.ofNat (48 + u % 10)] := by
  unfold dig
  rw [if_neg h]
  by_cases h1 : u < 10
  · rw [if_pos (by omega)]
    unfold Lib.decDigits
    rw [dif_pos h1, Nat.mod_eq_of_lt h1]; rfl
  · rw [if_neg (by omega)]
    conv => lhs; unfold Lib.decDigits
    rw [dif_neg h1]
theorem dec_arith (x4 : Int) (u : Nat) (h4 : x4.natAbs = u) (hlo : -9223372036854775808 ≤ x4) (hhi : x4 ≤ 9223372036854775807) :
    (Int.tdiv x4 10).natAbs = u / 10 ∧ (Int.tmod x4 10).natAbs = u % 10 ∧ -922337203685477580 ≤ Int.tdiv x4 10 ∧ Int.tdiv x4 10 ≤ 922337203685477580 := by
  have hd : (Int.tdiv x4 10).natAbs = u / 10 := by rw [Int.natAbs_tdiv, h4]; rfl
  have hm : (Int.tmod x4 10).natAbs = u % 10 := by rw [Int.natAbs_tmod, h4]; rfl
  refine ⟨hd, hm, ?_, ?_⟩ <;> omega
theorem dec_idx (t : Int) (v : Nat) (hv : v < 10) (hm : t.natAbs = v) (hn : t < 0) : wrap64 (-t) = (v : Int) := by rw [w64 (by omega) (by omega)]; omega
theorem dec_end (x0 : Int) (x3 : ByteArray) (h : x3.size ≤ 40) (k : Nat) : spec_DecText.l0 (k + 1) x0 x3 0 = some (S ((if x0 < 0 then [45] else []) ++ (dig 0 ++ L x3))) := by
  rw [spec_DecText.l0, if_pos rfl]
  by_cases hn : x0 < 0
  · rw [if_pos hn, if_pos hn, if_pos (by omega)]; rfl
  · rw [if_neg hn, if_neg hn]; rfl
theorem dec_go (x0 x4 t q : Int) (x3 : ByteArray) (v : Nat) (hv : v < 10) (hx : ¬ x4 = 0) (hT : Int.tmod x4 10 = t) (hQ : Int.tdiv x4 10 = q) (hq : wrap64 q = q) (hm : t.natAbs = v) (h3 : x3.size ≤ 40) (k : Nat) :
    spec_DecText.l0 (k + 1) x0 x3 x4 = spec_DecText.l0 k x0 (S [UInt8.ofNat (48 + v)] ++ x3) q := by
  have hone : (S [UInt8.ofNat (48 + v)]).size = 1 := by rw [size_S]; rfl
  have e2 : wrap64 ((v : Int) + 1) = ((v + 1 : Nat) : Int) := wa1 _ (by omega)
  have e3 := digit_at v hv
  unfold digits0 at e3
  have b1 : (0 : Int) ≤ (v : Int) := by omega
  have b2 : (v : Int) ≤ ((v + 1 : Nat) : Int) := by omega
  have b3 : ((v + 1 : Nat) : Int) ≤ 10 := by omega
  have b4 : (S [UInt8.ofNat (48 + v)]).size + x3.size ≤ 9223372036854775807 := by rw [hone]; omega
  rw [spec_DecText.l0, if_neg hx, hT, hQ, hq]
  by_cases hn : t < 0
  · rw [if_pos hn, dec_idx t v hv hm hn, e2, if_pos b1, if_pos b2, if_pos b3, Int.toNat_natCast, Int.toNat_natCast, e3, if_pos b4]
  · have e1 : t = (v : Int) := by omega
    rw [if_neg hn, e1, e2, if_pos b1, if_pos b2, if_pos b3, Int.toNat_natCast, Int.toNat_natCast, e3, if_pos b4]
theorem spec_DecText_l (x0 : Int) : ∀ d (u : Nat) (x4 : Int) (x3 : ByteArray), u < 10 ^ d → x4.natAbs = u → -9223372036854775808 ≤ x4 → x4 ≤ 9223372036854775807 → x3.size + d ≤ 40 →
    Ev (fun k => spec_DecText.l0 k x0 x3 x4) (S ((if x0 < 0 then [45] else []) ++ (dig u ++ L x3))) := by
  intro d
  induction d with
  | zero =>
    intro u x4 x3 hu h4 _ _ hs
    have e2 : u = 0 := by simpa using hu
    subst e2
    have e : x4 = 0 := Int.natAbs_eq_zero.1 h4
    subst e
    exact Ev.step (f := fun _ => some _) (dec_end x0 x3 (by omega)) (Ev.now _)
  | succ d ih =>
    intro u x4 x3 hu h4 hlo hhi hs
    by_cases hz : u = 0
    · subst hz
      have e : x4 = 0 := Int.natAbs_eq_zero.1 h4
      subst e
      exact Ev.step (f := fun _ => some _) (dec_end x0 x3 (by omega)) (Ev.now _)
    · have hx : ¬ x4 = 0 := fun e => hz (by rw [← h4, e]; rfl)
      obtain ⟨hd, hm, q1, q2⟩ := dec_arith x4 u h4 hlo hhi
      have h10 : u / 10 < 10 ^ d := by rw [Nat.div_lt_iff_lt_mul (by decide)]; rw [Nat.pow_succ] at hu; exact hu
      have hone : (S [UInt8.ofNat (48 + u % 10)]).size = 1 := by rw [size_S]; rfl
      clear hu h4
      rw [dig_step u hz]
      refine Ev.step (dec_go x0 x4 _ _ x3 (u % 10) (Nat.mod_lt _ (by decide)) hx rfl rfl (w64 (by omega) (by omega)) hm (by omega)) ?_
      refine ev_use (ih (u / 10) _ (S [UInt8.ofNat (48 + u % 10)] ++ x3) h10 hd (by omega) (by omega) (by rw [ByteArray.size_append, hone]; omega)) ?_
      rw [L_append, L_S]; simp
theorem itoa_dig (n : Int) (h : n ≠ 0) : Lib.itoa n = (if n < 0 then [45] else []) ++ dig n.natAbs := by
  unfold Lib.itoa dig
  by_cases hn : n < 0
  · rw [if_pos hn, if_pos hn, if_neg (by omega)]; rfl
  · rw [if_neg hn, if_neg hn, if_neg (by omega)]
    have : n.toNat = n.natAbs := by omega
    rw [this]; rfl
theorem spec_DecText_ev (n : Int) (h0 : -9223372036854775808 ≤ n) (h1 : n ≤ 9223372036854775807) : Ev (fun k => spec_DecText.f k n) (S (Lib.itoa n)) := by
  unfold spec_DecText.f
  by_cases h : n = 0
  · subst h; refine ev_pos rfl (ev_use (Ev.now _) ?_)
    apply L_inj; rw [L_S]; unfold Lib.itoa; rw [if_neg (by omega)]; unfold Lib.decDigits; rw [dif_pos (by decide)]; rfl
  · refine ev_neg h ?_
    rw [itoa_dig n h]
    refine ev_use (spec_DecText_l n 20 n.natAbs n ⟨#[]⟩ (by omega) rfl h0 h1 (by decide)) ?_
    congr 1
    show _ ++ (_ ++ ([] : B)) = _
    rw [List.append_nil]
theorem impl_DecText_eq (n : Int) (h0 : -9223372036854775808 ≤ n) (h1 : n ≤ 9223372036854775807) : impl_DecText.f n = some (S (Lib.itoa n)) := by
  unfold impl_DecText.f strconv_Itoa.f
  rw [if_pos ⟨h0, h1⟩]; rfl
end Go.Proofs.YtoidompkofomjaaGreatDoor.U

end
