-- PRINTED by print.py (a twelfth state) out of the translation. Not trusted: Lean checks it.
import Derived.Test.YtgfaphlpkjikkaaDoorG0
import Derived.Test.YtgfaphlpkjikkaaDoorGstringsSplit
import Derived.Test.YtgfaphlpkjikkaaDoorGimplReadDec
import Derived.Test.YtgfaphlpkjikkaaDoorGimplVersionText
import Derived.Test.YtgfaphlpkjikkaaDoorGstringsCut
namespace Go.Proofs.YtgfaphlpkjikkaaDoor.G
open Go.RowKit Go.Proofs.YtgfaphlpkjikkaaDoorW.PrintWords Go.Proofs.YtgfaphlpkjikkaaDoorW.PrintLast Go.Proofs.YtgfaphlpkjikkaaDoorW.PrintMore
attribute [local go_sem] max2_int min2_int max_two min_two max_three min_three max_four min_four   -- for this text's walks alone
attribute [local go_sem high] Go.Proofs.YtgfaphlpkjikkaaDoor.G.str_gtr Go.Proofs.YtgfaphlpkjikkaaDoor.G.str_leq Go.Proofs.YtgfaphlpkjikkaaDoor.G.str_geq
set_option linter.unusedVariables false
set_option linter.unusedSimpArgs false

/-! ### impl_ReadVersion: function 63 -/
def impl_ReadVersion.f (k : Nat) (a0 : ByteArray) : Option (Int × Int × Int × List ByteArray × Bool) := (strings_Cut.f a0 (⟨#[45]⟩ : ByteArray)).bind fun bt711 => ((strings_Split.f bt711.1 (⟨#[46]⟩ : ByteArray)).bind fun t714 => (if (t714.length : Int) = 3 then (if 0 < (t714.length : Int) then ((impl_ReadDec.f (rdOf ByteArray.empty t714 0)).bind fun t718 => (if 1 < (t714.length : Int) then ((impl_ReadDec.f (rdOf ByteArray.empty t714 1)).bind fun t720 => (if 2 < (t714.length : Int) then ((impl_ReadDec.f (rdOf ByteArray.empty t714 2)).bind fun t722 => (if bt711.2.2 = true then ((strings_Split.f bt711.2.1 (⟨#[46]⟩ : ByteArray)).bind fun t724 => ((impl_VersionText.f k t718 t720 t722 t724).bind fun t727 => (if t727.toList = a0.toList then (if a0.toList = ([] : List UInt8) then (some (0, 0, 0, ([] : List ByteArray), false)) else (some (t718, t720, t722, t724, true))) else (some (0, 0, 0, ([] : List ByteArray), false))))) else ((impl_VersionText.f k t718 t720 t722 ([] : List ByteArray)).bind fun t728 => (if t728.toList = a0.toList then (if a0.toList = ([] : List UInt8) then (some (0, 0, 0, ([] : List ByteArray), false)) else (some (t718, t720, t722, ([] : List ByteArray), true))) else (some (0, 0, 0, ([] : List ByteArray), false)))))) else (none))) else (none))) else (none)) else (some (0, 0, 0, ([] : List ByteArray), false))))
theorem impl_ReadVersion.mono : ∀ a0 k, LeO (impl_ReadVersion.f k a0) (impl_ReadVersion.f (k + 1) a0) := by
 intro a0 k
 unfold impl_ReadVersion.f
 repeat' first
   | (with_reducible exact impl_VersionText.mono _ _ _ _ _)
   | (with_reducible exact LeO.refl _)
   | (with_reducible exact LeO.none _)
   | (with_reducible refine LeO.ite ?_ ?_)
   | (with_reducible refine LeO.bind ?_ (fun _ => ?_))
   | exact impl_VersionText.mono _ _ _ _ _
   | exact LeO.none _
   | refine LeO.ite ?_ ?_
   | refine LeO.bind ?_ (fun _ => ?_)
def impl_ReadVersion.T5 : Bool × List (List Nat × List Nat) := (true, [([], []), ([0], [0]), ([1], [1]), ([2], [2]), ([], []), ([4], [4]), ([5], [5]), ([6, 3], [6]), ([], []), ([8], [8]), ([9], [9]), ([10, 7], [10]), ([3, 7, 11], [3, 7, 11]), ([], []), ([13, 12, 11, 0, 1, 2, 3, 4, 5, 6, 7, 8, 9, 10, 11, 12, 13], [12, 13])])
def impl_ReadVersion.B5 : List Nat := [0, 1, 3, 7, 0, 16, 48, 127, 0, 256, 768, 2047, 4095, 0, 16383]
theorem impl_ReadVersion.tab5 : rtab .any (opsOf Tryd.f63 5) = impl_ReadVersion.T5 := by kernel_rfl
theorem impl_ReadVersion.bits5 : waitsOk impl_ReadVersion.T5.2 impl_ReadVersion.B5 = true := by kernel_rfl
set_option maxHeartbeats 8000000 in
set_option maxRecDepth 100000 in
theorem impl_ReadVersion.calls (k : Nat) (a0 : ByteArray) (r1 : Int) (r2 : Int) (r3 : Int) (r4 : List ByteArray) (r5 : Bool) (w : World) (hGE : Glob FactE w) (hGM : Glob FactM w) (hGT : Glob FactT w) (h : impl_ReadVersion.f k a0 = some (r1, r2, r3, r4, r5)) :
  Calls Tryd.prog 63 #[.string a0] w fun e w' => ∃ v3_ : Value, e = .returned (.tuple #[.agg #[.int .i64 r1, .int .i64 r2, .int .i64 r3, v3_], .bool r5]) ∧ Kd.R Kd.string 9 w' w.heap.size (fun _ => True) v3_ r4 ∧ Below w.heap.size w w' := by
 have hu37 := Tryd.underlying37
 have HB := Aside0.mk (Below.refl w.heap.size w)
 have HGE := Aside0.mk hGE
 clear hGE
 have HGM := Aside0.mk hGM
 clear hGM
 have HGT := Aside0.mk hGT
 clear hGT
 have H : ((strings_Cut.f a0 (⟨#[45]⟩ : ByteArray)).bind fun bt711 => ((strings_Split.f bt711.1 (⟨#[46]⟩ : ByteArray)).bind fun t714 => (if (t714.length : Int) = 3 then (if 0 < (t714.length : Int) then ((impl_ReadDec.f (rdOf ByteArray.empty t714 0)).bind fun t718 => (if 1 < (t714.length : Int) then ((impl_ReadDec.f (rdOf ByteArray.empty t714 1)).bind fun t720 => (if 2 < (t714.length : Int) then ((impl_ReadDec.f (rdOf ByteArray.empty t714 2)).bind fun t722 => (if bt711.2.2 = true then ((strings_Split.f bt711.2.1 (⟨#[46]⟩ : ByteArray)).bind fun t724 => ((impl_VersionText.f k t718 t720 t722 t724).bind fun t727 => (if t727.toList = a0.toList then (if a0.toList = ([] : List UInt8) then (some (0, 0, 0, ([] : List ByteArray), false)) else (some (t718, t720, t722, t724, true))) else (some (0, 0, 0, ([] : List ByteArray), false))))) else ((impl_VersionText.f k t718 t720 t722 ([] : List ByteArray)).bind fun t728 => (if t728.toList = a0.toList then (if a0.toList = ([] : List UInt8) then (some (0, 0, 0, ([] : List ByteArray), false)) else (some (t718, t720, t722, ([] : List ByteArray), true))) else (some (0, 0, 0, ([] : List ByteArray), false)))))) else (none))) else (none))) else (none)) else (some (0, 0, 0, ([] : List ByteArray), false))))) = some (r1, r2, r3, r4, r5) := h
 clear h
 replace H := Option.bind_eq_some_iff.mp H
 obtain ⟨⟨t711, t712, t713⟩, A20, H⟩ := H
 replace H : ((strings_Split.f t711 (⟨#[46]⟩ : ByteArray)).bind fun t714 => (if (t714.length : Int) = 3 then (if 0 < (t714.length : Int) then ((impl_ReadDec.f (rdOf ByteArray.empty t714 0)).bind fun t718 => (if 1 < (t714.length : Int) then ((impl_ReadDec.f (rdOf ByteArray.empty t714 1)).bind fun t720 => (if 2 < (t714.length : Int) then ((impl_ReadDec.f (rdOf ByteArray.empty t714 2)).bind fun t722 => (if t713 = true then ((strings_Split.f t712 (⟨#[46]⟩ : ByteArray)).bind fun t724 => ((impl_VersionText.f k t718 t720 t722 t724).bind fun t727 => (if t727.toList = a0.toList then (if a0.toList = ([] : List UInt8) then (some (0, 0, 0, ([] : List ByteArray), false)) else (some (t718, t720, t722, t724, true))) else (some (0, 0, 0, ([] : List ByteArray), false))))) else ((impl_VersionText.f k t718 t720 t722 ([] : List ByteArray)).bind fun t728 => (if t728.toList = a0.toList then (if a0.toList = ([] : List UInt8) then (some (0, 0, 0, ([] : List ByteArray), false)) else (some (t718, t720, t722, ([] : List ByteArray), true))) else (some (0, 0, 0, ([] : List ByteArray), false)))))) else (none))) else (none))) else (none)) else (some (0, 0, 0, ([] : List ByteArray), false)))) = some (r1, r2, r3, r4, r5) := H
 have A2 := Aside0.mk A20
 clear A20
 replace H := Option.bind_eq_some_iff.mp H
 obtain ⟨t714, A30, H⟩ := H
 replace H : (if (t714.length : Int) = 3 then (if 0 < (t714.length : Int) then ((impl_ReadDec.f (rdOf ByteArray.empty t714 0)).bind fun t718 => (if 1 < (t714.length : Int) then ((impl_ReadDec.f (rdOf ByteArray.empty t714 1)).bind fun t720 => (if 2 < (t714.length : Int) then ((impl_ReadDec.f (rdOf ByteArray.empty t714 2)).bind fun t722 => (if t713 = true then ((strings_Split.f t712 (⟨#[46]⟩ : ByteArray)).bind fun t724 => ((impl_VersionText.f k t718 t720 t722 t724).bind fun t727 => (if t727.toList = a0.toList then (if a0.toList = ([] : List UInt8) then (some (0, 0, 0, ([] : List ByteArray), false)) else (some (t718, t720, t722, t724, true))) else (some (0, 0, 0, ([] : List ByteArray), false))))) else ((impl_VersionText.f k t718 t720 t722 ([] : List ByteArray)).bind fun t728 => (if t728.toList = a0.toList then (if a0.toList = ([] : List UInt8) then (some (0, 0, 0, ([] : List ByteArray), false)) else (some (t718, t720, t722, ([] : List ByteArray), true))) else (some (0, 0, 0, ([] : List ByteArray), false)))))) else (none))) else (none))) else (none)) else (some (0, 0, 0, ([] : List ByteArray), false))) = some (r1, r2, r3, r4, r5) := H
 have A3 := Aside0.mk A30
 clear A30
 by_cases c4 : (t714.length : Int) = 3
 ·rw [if_pos c4] at H
  have c4b0 : ((t714.length : Int) == 3) = true := beq_iff_eq.mpr c4
  have c4b1 : ((t714.length : Int) != 3) = false := bne_eq_false_iff_eq.mpr c4
  clear c4
  by_cases c5 : 0 < (t714.length : Int)
  ·rw [if_pos c5] at H
   have c5b0 : decide (0 < (t714.length : Int)) = true := decide_eq_true c5
   have c5b1 : decide (0 < t714.length) = true := decide_eq_true (by omega)
   clear c5
   replace H := Option.bind_eq_some_iff.mp H
   obtain ⟨t718, A60, H⟩ := H
   replace H : (if 1 < (t714.length : Int) then ((impl_ReadDec.f (rdOf ByteArray.empty t714 1)).bind fun t720 => (if 2 < (t714.length : Int) then ((impl_ReadDec.f (rdOf ByteArray.empty t714 2)).bind fun t722 => (if t713 = true then ((strings_Split.f t712 (⟨#[46]⟩ : ByteArray)).bind fun t724 => ((impl_VersionText.f k t718 t720 t722 t724).bind fun t727 => (if t727.toList = a0.toList then (if a0.toList = ([] : List UInt8) then (some (0, 0, 0, ([] : List ByteArray), false)) else (some (t718, t720, t722, t724, true))) else (some (0, 0, 0, ([] : List ByteArray), false))))) else ((impl_VersionText.f k t718 t720 t722 ([] : List ByteArray)).bind fun t728 => (if t728.toList = a0.toList then (if a0.toList = ([] : List UInt8) then (some (0, 0, 0, ([] : List ByteArray), false)) else (some (t718, t720, t722, ([] : List ByteArray), true))) else (some (0, 0, 0, ([] : List ByteArray), false)))))) else (none))) else (none)) = some (r1, r2, r3, r4, r5) := H
   have A6 := Aside0.mk A60
   clear A60
   by_cases c7 : 1 < (t714.length : Int)
   ·rw [if_pos c7] at H
    have c7b0 : decide (1 < (t714.length : Int)) = true := decide_eq_true c7
    have c7b1 : decide (1 < t714.length) = true := decide_eq_true (by omega)
    clear c7
    replace H := Option.bind_eq_some_iff.mp H
    obtain ⟨t720, A80, H⟩ := H
    replace H : (if 2 < (t714.length : Int) then ((impl_ReadDec.f (rdOf ByteArray.empty t714 2)).bind fun t722 => (if t713 = true then ((strings_Split.f t712 (⟨#[46]⟩ : ByteArray)).bind fun t724 => ((impl_VersionText.f k t718 t720 t722 t724).bind fun t727 => (if t727.toList = a0.toList then (if a0.toList = ([] : List UInt8) then (some (0, 0, 0, ([] : List ByteArray), false)) else (some (t718, t720, t722, t724, true))) else (some (0, 0, 0, ([] : List ByteArray), false))))) else ((impl_VersionText.f k t718 t720 t722 ([] : List ByteArray)).bind fun t728 => (if t728.toList = a0.toList then (if a0.toList = ([] : List UInt8) then (some (0, 0, 0, ([] : List ByteArray), false)) else (some (t718, t720, t722, ([] : List ByteArray), true))) else (some (0, 0, 0, ([] : List ByteArray), false)))))) else (none)) = some (r1, r2, r3, r4, r5) := H
    have A8 := Aside0.mk A80
    clear A80
    by_cases c9 : 2 < (t714.length : Int)
    ·rw [if_pos c9] at H
     have c9b0 : decide (2 < (t714.length : Int)) = true := decide_eq_true c9
     have c9b1 : decide (2 < t714.length) = true := decide_eq_true (by omega)
     clear c9
     replace H := Option.bind_eq_some_iff.mp H
     obtain ⟨t722, A100, H⟩ := H
     replace H : (if t713 = true then ((strings_Split.f t712 (⟨#[46]⟩ : ByteArray)).bind fun t724 => ((impl_VersionText.f k t718 t720 t722 t724).bind fun t727 => (if t727.toList = a0.toList then (if a0.toList = ([] : List UInt8) then (some (0, 0, 0, ([] : List ByteArray), false)) else (some (t718, t720, t722, t724, true))) else (some (0, 0, 0, ([] : List ByteArray), false))))) else ((impl_VersionText.f k t718 t720 t722 ([] : List ByteArray)).bind fun t728 => (if t728.toList = a0.toList then (if a0.toList = ([] : List UInt8) then (some (0, 0, 0, ([] : List ByteArray), false)) else (some (t718, t720, t722, ([] : List ByteArray), true))) else (some (0, 0, 0, ([] : List ByteArray), false))))) = some (r1, r2, r3, r4, r5) := H
     have A10 := Aside0.mk A100
     clear A100
     have HZ_ := Aside0.mk H
     clear H
     go_enter Tryd.func63, Tryd.ntmps63
     try go_wp2_with (first | ((with_reducible refine gate_dst (N := 2) rfl ?_); refine box_event ?hg (N := 2) ?hd (cs := #[.int .i64 0, .int .i64 0, .int .i64 0, .slice none 0 0]) (t := 37) ?hr ?_; (case hd => rfl); (case hg => rfl); (case hr => first | (go_simp; done) | (go_simp; rfl)); intro gb710 hg w16 hbox hb; have n0_ := Aside0.mk (below_step zb0 hb); have n1_ := Aside0.mk (hbox); have n2_ := Aside0.mk ((by rw [hg]; exact (below_size zb0) : w.heap.size ≤ gb710)); have n3_ := Aside0.mk ((by rw [hg]; exact (below_size zb0) : w.heap.size ≤ gb710)); clear HB; have HB := n0_; have BK710 := n1_; have GW710 := n2_; have GE710 := n3_; clear n0_ n1_ n2_ n3_; clear hb hbox hg) | ((with_reducible refine gate_callee (f := 106) rfl ?_); refine goesL_ (some 11) rfl rfl Tryd.func106 (by kernel_rfl) rfl #[.string a0, .string (⟨#[45]⟩ : ByteArray)] rfl zb1 ?_; (with_reducible refine (strings_Cut.calls a0 (⟨#[45]⟩ : ByteArray) t711 t712 t713 _ ?side1 A2.out).mono ?_); (case side1 => exact Glob.below HGM.out zb6); rintro e w' ⟨rfl, ⟨nd, rfl⟩⟩; refine ⟨_, rfl, ?_⟩; (try (rw [drewN_self w16]; generalize hq_ : World.drewN w16 _ = w16; have n0_ : Aside0 (w16.heap[gb710]? = some (.cells #[.int .i64 0, .int .i64 0, .int .i64 0, .slice none 0 0] 37 (0, 0))) := ⟨by rw [← hq_]; exact (by (with_reducible repeat (first | refine bN_ ?_ _ | refine bD_ ?_ | refine bA_ ?_ _)); exact BK710.out)⟩; have n1_ : Aside0 (Below w.heap.size w w16) := ⟨by rw [← hq_]; exact zb6⟩; clear BK710 HB hq_; have BK710 := n0_; have HB := n1_; clear n0_ n1_))) | ((with_reducible refine gate_callee (f := 78) rfl ?_); refine goesL_ (some 16) rfl rfl Tryd.func78 (by kernel_rfl) rfl #[.string t711, .string (⟨#[46]⟩ : ByteArray)] rfl zb1 ?_; (with_reducible refine (strings_Split.calls t711 (⟨#[46]⟩ : ByteArray) t714 _ ?side1 A3.out).mono ?_); (case side1 => exact Glob.below HGM.out zb6); rintro e w17 ⟨v715, rfl, ho0, hb⟩; refine ⟨_, rfl, ?_⟩; have n0_ := Aside0.mk (Kd.R_lower ho0 (below_size zb6)); have n1_ := Aside0.mk (blk_below (g := gb710) (o := .cells #[.int .i64 0, .int .i64 0, .int .i64 0, .slice none 0 0] 37 (0, 0)) (by (with_reducible repeat (first | refine bN_ ?_ _ | refine bD_ ?_ | refine bA_ ?_ _)); exact BK710.out) hb); have n2_ := Aside0.mk (below_step zb6 hb); clear BK710; clear HB; have HO716 := n0_; have BK710 := n1_; have HB := n2_; clear n0_ n1_ n2_; (try clear hb); (try clear hb2); (try clear hk); (try clear hi); (try clear ho0); obtain ⟨Ao18, co18, eo18⟩ := Kd.R_slice HO716.out; subst eo18))
     have n0_ := Aside0.mk (Kd.R_drew HO716.out)
     have n1_ := Aside0.mk (blk_drew BK710.out)
     have n2_ := Aside0.mk (below_drew1 HB.out)
     clear HO716
     clear BK710
     clear HB
     have HO716 := n0_
     have BK710 := n1_
     have HB := n2_
     clear n0_ n1_ n2_
     have p717 : 0 ≤ (0 : Int) := (by omega)
     have q717 : 0 < (t714.length : Int) := of_decide_eq_true zb4
     obtain ⟨ad717, e717, hx717_0⟩ := Kd.at_string (Kd.R_reads' HO716.out).2.2 0 p717 q717
     cases e717
     have qi717 : (0 < t714.length) = True := eq_true (by omega)
     (try rw [show ((0 : Int)).toNat = 0 from rfl] at hx717_0)
     (try rw [Addr.add_zero'] at hx717_0)
     replace p717 := eq_true p717
     replace q717 := eq_true q717
     have p719 : 0 ≤ (1 : Int) := (by omega)
     have q719 : 1 < (t714.length : Int) := of_decide_eq_true zb4
     obtain ⟨ad719, e719, hx719_0⟩ := Kd.at_string (Kd.R_reads' HO716.out).2.2 1 p719 q719
     obtain rfl : ad717 = ad719 := (by injection e719)
     (try simp only [show (1 : Int).toNat = 1 from rfl, Nat.reduceMul, Nat.reduceEqDiff, Go.Addr.add, ↓reduceIte] at hx719_0)
     have qi719 : (1 < t714.length) = True := eq_true (by omega)
     (try rw [show ((1 : Int)).toNat = 1 from rfl] at hx719_0)
     replace p719 := eq_true p719
     replace q719 := eq_true q719
     have p721 : 0 ≤ (2 : Int) := (by omega)
     have q721 : 2 < (t714.length : Int) := of_decide_eq_true zb4
     obtain ⟨ad721, e721, hx721_0⟩ := Kd.at_string (Kd.R_reads' HO716.out).2.2 2 p721 q721
     obtain rfl : ad717 = ad721 := (by injection e721)
     (try simp only [show (2 : Int).toNat = 2 from rfl, Nat.reduceMul, Nat.reduceEqDiff, Go.Addr.add, ↓reduceIte] at hx721_0)
     have qi721 : (2 < t714.length) = True := eq_true (by omega)
     (try rw [show ((2 : Int)).toNat = 2 from rfl] at hx721_0)
     replace p721 := eq_true p721
     replace q721 := eq_true q721
     refine start_ (n := 15) (S := fun w' => w'.cell? ad717 = some (.string (rdOf ByteArray.empty t714 0)) ∧ w'.cell? ⟨ad717.block, ad717.off + 1, none⟩ = some (.string (rdOf ByteArray.empty t714 1)) ∧ w'.cell? ⟨ad717.block, ad717.off + 2, none⟩ = some (.string (rdOf ByteArray.empty t714 2))) (ds := []) #[false, false, false, false, false, false, false, false, false, false, false, false, false, false, false] (by kernel_rfl) rfl rfl ⟨hx717_0, hx719_0, hx721_0⟩ (fun hHeld => ?_); refine with_tabW impl_ReadVersion.tab5 impl_ReadVersion.bits5 (fun HT_ HW_ => ?_)
     generalize w17.drew = w19 at HO716 BK710 HB hx717_0 hx719_0 hx721_0 hHeld ⊢
     refine pure_ (i := 0) (N := some 21) (v := ?_) (a' := ?_) #[true, false, false, false, false, false, false, false, false, false, false, false, false, false, false] rfl rfl (any_of HT_.out (by kernel_rfl)) (fun _ _ _ h => h) (Or.inl ⟨by rfl, ?_⟩) ?_ ?_
     rotate_left
     ·intro w'
      go_simp
      with_reducible rfl
     rotate_left
     ·simp only [Act.put, List.setIfInBounds_toArray, List.set_cons_zero, List.set_cons_succ, i64_w, i32_w]
      rfl
     refine pure_ (i := 1) (N := some 22) (v := ?_) (a' := ?_) #[true, true, false, false, false, false, false, false, false, false, false, false, false, false, false] rfl rfl (any_of HT_.out (by kernel_rfl)) (fun _ _ _ h => h) (Or.inl ⟨by rfl, ?_⟩) ?_ ?_
     rotate_left
     ·intro w'
      go_simp
      with_reducible rfl
     rotate_left
     ·simp only [Act.put, List.setIfInBounds_toArray, List.set_cons_zero, List.set_cons_succ, i64_w, i32_w]
      rfl
     refine pure_ (i := 4) (N := some 25) (v := ?_) (a' := ?_) #[true, true, false, false, true, false, false, false, false, false, false, false, false, false, false] rfl rfl (any_of HT_.out (by kernel_rfl)) (fun _ _ _ h => h) (Or.inl ⟨by rfl, ?_⟩) ?_ ?_
     rotate_left
     ·intro w'
      go_simp
      with_reducible rfl
     rotate_left
     ·simp only [Act.put, List.setIfInBounds_toArray, List.set_cons_zero, List.set_cons_succ, i64_w, i32_w]
      rfl
     refine pure_ (i := 5) (N := some 26) (v := ?_) (a' := ?_) #[true, true, false, false, true, true, false, false, false, false, false, false, false, false, false] rfl rfl (any_of HT_.out (by kernel_rfl)) (fun _ _ _ h => h) (Or.inl ⟨by rfl, ?_⟩) ?_ ?_
     rotate_left
     ·intro w'
      go_simp
      with_reducible rfl
     rotate_left
     ·simp only [Act.put, List.setIfInBounds_toArray, List.set_cons_zero, List.set_cons_succ, i64_w, i32_w]
      rfl
     refine pure_ (i := 8) (N := some 29) (v := ?_) (a' := ?_) #[true, true, false, false, true, true, false, false, true, false, false, false, false, false, false] rfl rfl (any_of HT_.out (by kernel_rfl)) (fun _ _ _ h => h) (Or.inl ⟨by rfl, ?_⟩) ?_ ?_
     rotate_left
     ·intro w'
      go_simp
      with_reducible rfl
     rotate_left
     ·simp only [Act.put, List.setIfInBounds_toArray, List.set_cons_zero, List.set_cons_succ, i64_w, i32_w]
      rfl
     refine pure_ (i := 9) (N := some 30) (v := ?_) (a' := ?_) #[true, true, false, false, true, true, false, false, true, true, false, false, false, false, false] rfl rfl (any_of HT_.out (by kernel_rfl)) (fun _ _ _ h => h) (Or.inl ⟨by rfl, ?_⟩) ?_ ?_
     rotate_left
     ·intro w'
      go_simp
      with_reducible rfl
     rotate_left
     ·simp only [Act.put, List.setIfInBounds_toArray, List.set_cons_zero, List.set_cons_succ, i64_w, i32_w]
      rfl
     refine take_ (i := 2) (N := some 23) (v := ?_) (a' := ?_) #[true, true, true, false, true, true, false, false, true, true, false, false, false, false, false] rfl rfl (take_ofW HT_.out HW_.out (by kernel_rfl)) (fun _ _ _ h => h) (Or.inl ⟨by rfl, ?_⟩) hHeld ?_ ?_
     rotate_left
     ·rintro w' ⟨s0, s1, s2⟩
      go_simp
      with_reducible rfl
     rotate_left
     ·simp only [Act.put, List.setIfInBounds_toArray, List.set_cons_zero, List.set_cons_succ, i64_w, i32_w]
      rfl
     refine take_ (i := 6) (N := some 27) (v := ?_) (a' := ?_) #[true, true, true, false, true, true, true, false, true, true, false, false, false, false, false] rfl rfl (take_ofW HT_.out HW_.out (by kernel_rfl)) (fun _ _ _ h => h) (Or.inl ⟨by rfl, ?_⟩) hHeld ?_ ?_
     rotate_left
     ·rintro w' ⟨s0, s1, s2⟩
      go_simp
      with_reducible rfl
     rotate_left
     ·simp only [Act.put, List.setIfInBounds_toArray, List.set_cons_zero, List.set_cons_succ, i64_w, i32_w]
      rfl
     refine take_ (i := 10) (N := some 31) (v := ?_) (a' := ?_) #[true, true, true, false, true, true, true, false, true, true, true, false, false, false, false] rfl rfl (take_ofW HT_.out HW_.out (by kernel_rfl)) (fun _ _ _ h => h) (Or.inl ⟨by rfl, ?_⟩) hHeld ?_ ?_
     rotate_left
     ·rintro w' ⟨s0, s1, s2⟩
      go_simp
      with_reducible rfl
     rotate_left
     ·simp only [Act.put, List.setIfInBounds_toArray, List.set_cons_zero, List.set_cons_succ, i64_w, i32_w]
      rfl
     refine join_ (σ := Nat) 1 #[true, true, true, true, true, true, true, true, true, true, true, true, true, true, false] (fun s_ => [(24, .int .i64 t718), (28, .int .i64 t720), (32, .int .i64 t722), (8, .pointer (some ⟨s_, 0, none⟩)), (33, .agg #[.int .i64 t718, .int .i64 t720, .int .i64 t722, .slice none 0 0])]) (fun s_ w' => (w'.cell? ad717 = some (.string (rdOf ByteArray.empty t714 0)) ∧ w'.cell? ⟨ad717.block, ad717.off + 1, none⟩ = some (.string (rdOf ByteArray.empty t714 1)) ∧ w'.cell? ⟨ad717.block, ad717.off + 2, none⟩ = some (.string (rdOf ByteArray.empty t714 2))) ∧ (Kd.R Kd.string 9 w' w.heap.size (fun _ => True) (.slice (some ad717) t714.length co18) t714) ∧ (w'.heap[gb710]? = some (.cells #[.int .i64 0, .int .i64 0, .int .i64 0, .slice none 0 0] 37 (0, 0))) ∧ (w'.heap[s_]? = some (.cells #[.int .i64 0, .int .i64 0, .int .i64 0, .slice none 0 0] 37 (0, 0))) ∧ (w.heap.size ≤ s_) ∧ (w.heap.size ≤ s_) ∧ (gb710 ≠ s_) ∧ (s_ ≠ gb710) ∧ (Below w.heap.size w w')) ?_ ?_
     rotate_left
     ·intro hCont
      refine two_ (i := 3) (j := 13) (Ni := some 24) (Nj := some 8) #[true, true, true, true, true, true, true, false, true, true, true, false, false, false, false] #[true, true, true, false, true, true, true, false, true, true, true, false, false, true, false] rfl rfl rfl rfl (two_of HT_.out (by kernel_rfl)) (by decide) (by decide) (fun K hK => ?_) (fun K hK => ?_)
      ·skip
       refine goes_ Tryd.func37 (by kernel_rfl) rfl #[.string (rdOf ByteArray.empty t714 0)] (by rfl) rfl rfl zb1 ?_
       with_reducible refine (impl_ReadDec.calls (rdOf ByteArray.empty t714 0) t718 _ ?side1 ?side2 A6.out).mono ?_
       (case side1 => exact Glob.below HGE.out zb6)
       (case side2 => exact Glob.below HGT.out zb6)
       rintro e w20 ⟨rfl, hb⟩
       have HS0_ := (hb.cell (World.block_lt_of_cell? _ _ (hHeld.1))).trans (hHeld.1)
       have HS1_ := (hb.cell (World.block_lt_of_cell? _ _ (hHeld.2.1))).trans (hHeld.2.1)
       have HS2_ := (hb.cell (World.block_lt_of_cell? _ _ (hHeld.2.2))).trans (hHeld.2.2)
       refine ⟨_, rfl, ?_⟩
       have n0_ := Aside0.mk (Kd.R_below (by (with_reducible repeat (first | apply Kd.R_alloc | apply Kd.R_drewN | apply Kd.R_drew)); exact HO716.out) hb)
       have n1_ := Aside0.mk (blk_below (g := gb710) (o := .cells #[.int .i64 0, .int .i64 0, .int .i64 0, .slice none 0 0] 37 (0, 0)) (by (with_reducible repeat (first | refine bN_ ?_ _ | refine bD_ ?_ | refine bA_ ?_ _)); exact BK710.out) hb)
       have n2_ := Aside0.mk (below_step zb6 hb)
       clear HO716
       clear BK710
       clear HB
       have HO716 := n0_
       have BK710 := n1_
       have HB := n2_
       clear n0_ n1_ n2_
       (try clear hb)
       (try clear hb2)
       (try clear hk)
       (try clear hi)
       refine hK.out _ _ ⟨HS0_, HS1_, HS2_⟩ (fun hHeld => ?_)
       clear hK K
       refine norm_ (a' := ?_) ?_ ?_
       rotate_left
       ·show Act.put _ (some 24) _ = _
        simp only [Act.put, List.setIfInBounds_toArray, List.set_cons_zero, List.set_cons_succ, i64_w, i32_w]
        rfl
       refine two_ (i := 7) (j := 13) (Ni := some 28) (Nj := some 8) #[true, true, true, true, true, true, true, true, true, true, true, false, false, false, false] #[true, true, true, true, true, true, true, false, true, true, true, false, false, true, false] rfl rfl rfl rfl (two_of HT_.out (by kernel_rfl)) (by decide) (by decide) (fun K hK => ?_) (fun K hK => ?_)
       ·skip
        refine goes_ Tryd.func37 (by kernel_rfl) rfl #[.string (rdOf ByteArray.empty t714 1)] (by rfl) rfl rfl zb1 ?_
        with_reducible refine (impl_ReadDec.calls (rdOf ByteArray.empty t714 1) t720 _ ?side1 ?side2 A8.out).mono ?_
        (case side1 => exact Glob.below HGE.out zb6)
        (case side2 => exact Glob.below HGT.out zb6)
        rintro e w21 ⟨rfl, hb⟩
        have HS0_ := (hb.cell (World.block_lt_of_cell? _ _ (hHeld.1))).trans (hHeld.1)
        have HS1_ := (hb.cell (World.block_lt_of_cell? _ _ (hHeld.2.1))).trans (hHeld.2.1)
        have HS2_ := (hb.cell (World.block_lt_of_cell? _ _ (hHeld.2.2))).trans (hHeld.2.2)
        refine ⟨_, rfl, ?_⟩
        have n0_ := Aside0.mk (Kd.R_below (by (with_reducible repeat (first | apply Kd.R_alloc | apply Kd.R_drewN | apply Kd.R_drew)); exact HO716.out) hb)
        have n1_ := Aside0.mk (blk_below (g := gb710) (o := .cells #[.int .i64 0, .int .i64 0, .int .i64 0, .slice none 0 0] 37 (0, 0)) (by (with_reducible repeat (first | refine bN_ ?_ _ | refine bD_ ?_ | refine bA_ ?_ _)); exact BK710.out) hb)
        have n2_ := Aside0.mk (below_step zb6 hb)
        clear HO716
        clear BK710
        clear HB
        have HO716 := n0_
        have BK710 := n1_
        have HB := n2_
        clear n0_ n1_ n2_
        (try clear hb)
        (try clear hb2)
        (try clear hk)
        (try clear hi)
        refine hK.out _ _ ⟨HS0_, HS1_, HS2_⟩ (fun hHeld => ?_)
        clear hK K
        refine norm_ (a' := ?_) ?_ ?_
        rotate_left
        ·show Act.put _ (some 28) _ = _
         simp only [Act.put, List.setIfInBounds_toArray, List.set_cons_zero, List.set_cons_succ, i64_w, i32_w]
         rfl
        refine two_ (i := 11) (j := 13) (Ni := some 32) (Nj := some 8) #[true, true, true, true, true, true, true, true, true, true, true, true, false, false, false] #[true, true, true, true, true, true, true, true, true, true, true, false, false, true, false] rfl rfl rfl rfl (two_of HT_.out (by kernel_rfl)) (by decide) (by decide) (fun K hK => ?_) (fun K hK => ?_)
        ·skip
         refine goes_ Tryd.func37 (by kernel_rfl) rfl #[.string (rdOf ByteArray.empty t714 2)] (by rfl) rfl rfl zb1 ?_
         with_reducible refine (impl_ReadDec.calls (rdOf ByteArray.empty t714 2) t722 _ ?side1 ?side2 A10.out).mono ?_
         (case side1 => exact Glob.below HGE.out zb6)
         (case side2 => exact Glob.below HGT.out zb6)
         rintro e w22 ⟨rfl, hb⟩
         have HS0_ := (hb.cell (World.block_lt_of_cell? _ _ (hHeld.1))).trans (hHeld.1)
         have HS1_ := (hb.cell (World.block_lt_of_cell? _ _ (hHeld.2.1))).trans (hHeld.2.1)
         have HS2_ := (hb.cell (World.block_lt_of_cell? _ _ (hHeld.2.2))).trans (hHeld.2.2)
         refine ⟨_, rfl, ?_⟩
         have n0_ := Aside0.mk (Kd.R_below (by (with_reducible repeat (first | apply Kd.R_alloc | apply Kd.R_drewN | apply Kd.R_drew)); exact HO716.out) hb)
         have n1_ := Aside0.mk (blk_below (g := gb710) (o := .cells #[.int .i64 0, .int .i64 0, .int .i64 0, .slice none 0 0] 37 (0, 0)) (by (with_reducible repeat (first | refine bN_ ?_ _ | refine bD_ ?_ | refine bA_ ?_ _)); exact BK710.out) hb)
         have n2_ := Aside0.mk (below_step zb6 hb)
         clear HO716
         clear BK710
         clear HB
         have HO716 := n0_
         have BK710 := n1_
         have HB := n2_
         clear n0_ n1_ n2_
         (try clear hb)
         (try clear hb2)
         (try clear hk)
         (try clear hi)
         refine hK.out _ _ ⟨HS0_, HS1_, HS2_⟩ (fun hHeld => ?_)
         clear hK K
         refine norm_ (a' := ?_) ?_ ?_
         rotate_left
         ·show Act.put _ (some 32) _ = _
          simp only [Act.put, List.setIfInBounds_toArray, List.set_cons_zero, List.set_cons_succ, i64_w, i32_w]
          rfl
         refine pure_ (i := 12) (N := some 33) (v := ?_) (a' := ?_) #[true, true, true, true, true, true, true, true, true, true, true, true, true, false, false] rfl rfl (any_of HT_.out (by kernel_rfl)) (fun _ _ _ h => h) (Or.inl ⟨by rfl, ?_⟩) ?_ ?_
         rotate_left
         ·intro w'
          go_simp
          with_reducible rfl
         rotate_left
         ·simp only [Act.put, List.setIfInBounds_toArray, List.set_cons_zero, List.set_cons_succ, i64_w, i32_w]
          rfl
         refine one_ (i := 13) (N := some 8) #[true, true, true, true, true, true, true, true, true, true, true, true, true, true, false] rfl rfl (one_of HT_.out (by kernel_rfl)) (by decide) (fun K hK => ?_)
         refine box_step ?hg (N := 8) ?hd (cs := #[.int .i64 0, .int .i64 0, .int .i64 0, .slice none 0 0]) (t := 37) ?hr ?_; (case hd => rfl); (case hg => rfl); (case hr => first | (go_simp; done) | (go_simp; rfl))
         intro gb723 hg w23 hbox hb
         have HS0_ := (hb.cell (World.block_lt_of_cell? _ _ (hHeld.1))).trans (hHeld.1)
         have HS1_ := (hb.cell (World.block_lt_of_cell? _ _ (hHeld.2.1))).trans (hHeld.2.1)
         have HS2_ := (hb.cell (World.block_lt_of_cell? _ _ (hHeld.2.2))).trans (hHeld.2.2)
         have n0_ := Aside0.mk (Kd.R_below (by (with_reducible repeat (first | apply Kd.R_alloc | apply Kd.R_drewN | apply Kd.R_drew)); exact HO716.out) hb)
         have n1_ := Aside0.mk (blk_below (g := gb710) (o := .cells #[.int .i64 0, .int .i64 0, .int .i64 0, .slice none 0 0] 37 (0, 0)) (by (with_reducible repeat (first | refine bN_ ?_ _ | refine bD_ ?_ | refine bA_ ?_ _)); exact BK710.out) hb)
         have n2_ := Aside0.mk (below_step zb6 hb)
         have n3_ := Aside0.mk (hbox)
         have n4_ := Aside0.mk ((by rw [hg]; exact (below_size zb6) : w.heap.size ≤ gb723))
         have n5_ := Aside0.mk ((by rw [hg]; exact (below_size zb6) : w.heap.size ≤ gb723))
         have n6_ := Aside0.mk ((by rw [hg]; exact Nat.ne_of_lt (blk_lt (g := gb710) (o := .cells #[.int .i64 0, .int .i64 0, .int .i64 0, .slice none 0 0] 37 (0, 0)) (by (with_reducible repeat (first | refine bN_ ?_ _ | refine bD_ ?_ | refine bA_ ?_ _)); exact BK710.out)) : gb710 ≠ gb723))
         have n7_ := Aside0.mk ((by rw [hg]; exact Nat.ne_of_gt (blk_lt (g := gb710) (o := .cells #[.int .i64 0, .int .i64 0, .int .i64 0, .slice none 0 0] 37 (0, 0)) (by (with_reducible repeat (first | refine bN_ ?_ _ | refine bD_ ?_ | refine bA_ ?_ _)); exact BK710.out)) : gb723 ≠ gb710))
         clear HO716
         clear BK710
         clear HB
         have HO716 := n0_
         have BK710 := n1_
         have HB := n2_
         have BK723 := n3_
         have GW723 := n4_
         have GE723 := n5_
         have NB710_723 := n6_
         have NB723_710 := n7_
         clear n0_ n1_ n2_ n3_ n4_ n5_ n6_ n7_
         clear hb hbox hg
         refine hK.out _ _ ⟨HS0_, HS1_, HS2_⟩ (fun hHeld => ?_)
         clear hK K
         refine norm_ (a' := ?_) ?_ ?_
         rotate_left
         ·show Act.put _ (some 8) _ = _
          simp only [Act.put, List.setIfInBounds_toArray, List.set_cons_zero, List.set_cons_succ, i64_w, i32_w]
          rfl
         exact norm_ (by simp only [putAll, Act.put, List.setIfInBounds_toArray, List.set_cons_zero, List.set_cons_succ]) (hCont (gb723) _ ⟨hHeld, (by (with_reducible repeat (first | apply Kd.R_alloc | apply Kd.R_drewN | apply Kd.R_drew)); exact HO716.out), (by (with_reducible repeat (first | refine bN_ ?_ _ | refine bD_ ?_ | refine bA_ ?_ _)); exact BK710.out), (by (with_reducible repeat (first | refine bN_ ?_ _ | refine bD_ ?_ | refine bA_ ?_ _)); exact BK723.out), GW723.out, GE723.out, NB710_723.out, NB723_710.out, zb2⟩)
        ·skip
         refine box_step ?hg (N := 8) ?hd (cs := #[.int .i64 0, .int .i64 0, .int .i64 0, .slice none 0 0]) (t := 37) ?hr ?_; (case hd => rfl); (case hg => rfl); (case hr => first | (go_simp; done) | (go_simp; rfl))
         intro gb723 hg w22 hbox hb
         have HS0_ := (hb.cell (World.block_lt_of_cell? _ _ (hHeld.1))).trans (hHeld.1)
         have HS1_ := (hb.cell (World.block_lt_of_cell? _ _ (hHeld.2.1))).trans (hHeld.2.1)
         have HS2_ := (hb.cell (World.block_lt_of_cell? _ _ (hHeld.2.2))).trans (hHeld.2.2)
         have n0_ := Aside0.mk (Kd.R_below (by (with_reducible repeat (first | apply Kd.R_alloc | apply Kd.R_drewN | apply Kd.R_drew)); exact HO716.out) hb)
         have n1_ := Aside0.mk (blk_below (g := gb710) (o := .cells #[.int .i64 0, .int .i64 0, .int .i64 0, .slice none 0 0] 37 (0, 0)) (by (with_reducible repeat (first | refine bN_ ?_ _ | refine bD_ ?_ | refine bA_ ?_ _)); exact BK710.out) hb)
         have n2_ := Aside0.mk (below_step zb6 hb)
         have n3_ := Aside0.mk (hbox)
         have n4_ := Aside0.mk ((by rw [hg]; exact (below_size zb6) : w.heap.size ≤ gb723))
         have n5_ := Aside0.mk ((by rw [hg]; exact (below_size zb6) : w.heap.size ≤ gb723))
         have n6_ := Aside0.mk ((by rw [hg]; exact Nat.ne_of_lt (blk_lt (g := gb710) (o := .cells #[.int .i64 0, .int .i64 0, .int .i64 0, .slice none 0 0] 37 (0, 0)) (by (with_reducible repeat (first | refine bN_ ?_ _ | refine bD_ ?_ | refine bA_ ?_ _)); exact BK710.out)) : gb710 ≠ gb723))
         have n7_ := Aside0.mk ((by rw [hg]; exact Nat.ne_of_gt (blk_lt (g := gb710) (o := .cells #[.int .i64 0, .int .i64 0, .int .i64 0, .slice none 0 0] 37 (0, 0)) (by (with_reducible repeat (first | refine bN_ ?_ _ | refine bD_ ?_ | refine bA_ ?_ _)); exact BK710.out)) : gb723 ≠ gb710))
         clear HO716
         clear BK710
         clear HB
         have HO716 := n0_
         have BK710 := n1_
         have HB := n2_
         have BK723 := n3_
         have GW723 := n4_
         have GE723 := n5_
         have NB710_723 := n6_
         have NB723_710 := n7_
         clear n0_ n1_ n2_ n3_ n4_ n5_ n6_ n7_
         clear hb hbox hg
         refine hK.out _ _ ⟨HS0_, HS1_, HS2_⟩ (fun hHeld => ?_)
         clear hK K
         refine norm_ (a' := ?_) ?_ ?_
         rotate_left
         ·show Act.put _ (some 8) _ = _
          simp only [Act.put, List.setIfInBounds_toArray, List.set_cons_zero, List.set_cons_succ, i64_w, i32_w]
          rfl
         refine one_ (i := 11) (N := some 32) #[true, true, true, true, true, true, true, true, true, true, true, true, false, true, false] rfl rfl (one_of HT_.out (by kernel_rfl)) (by decide) (fun K hK => ?_)
         refine goes_ Tryd.func37 (by kernel_rfl) rfl #[.string (rdOf ByteArray.empty t714 2)] (by rfl) rfl rfl zb1 ?_
         with_reducible refine (impl_ReadDec.calls (rdOf ByteArray.empty t714 2) t722 _ ?side1 ?side2 A10.out).mono ?_
         (case side1 => exact Glob.below HGE.out zb2)
         (case side2 => exact Glob.below HGT.out zb2)
         rintro e w23 ⟨rfl, hb⟩
         have HS0_ := (hb.cell (World.block_lt_of_cell? _ _ (hHeld.1))).trans (hHeld.1)
         have HS1_ := (hb.cell (World.block_lt_of_cell? _ _ (hHeld.2.1))).trans (hHeld.2.1)
         have HS2_ := (hb.cell (World.block_lt_of_cell? _ _ (hHeld.2.2))).trans (hHeld.2.2)
         refine ⟨_, rfl, ?_⟩
         have n0_ := Aside0.mk (Kd.R_below (by (with_reducible repeat (first | apply Kd.R_alloc | apply Kd.R_drewN | apply Kd.R_drew)); exact HO716.out) hb)
         have n1_ := Aside0.mk (blk_below (g := gb710) (o := .cells #[.int .i64 0, .int .i64 0, .int .i64 0, .slice none 0 0] 37 (0, 0)) (by (with_reducible repeat (first | refine bN_ ?_ _ | refine bD_ ?_ | refine bA_ ?_ _)); exact BK710.out) hb)
         have n2_ := Aside0.mk (blk_below (g := gb723) (o := .cells #[.int .i64 0, .int .i64 0, .int .i64 0, .slice none 0 0] 37 (0, 0)) (by (with_reducible repeat (first | refine bN_ ?_ _ | refine bD_ ?_ | refine bA_ ?_ _)); exact BK723.out) hb)
         have n3_ := Aside0.mk (below_step zb2 hb)
         clear HO716
         clear BK710
         clear BK723
         clear HB
         have HO716 := n0_
         have BK710 := n1_
         have BK723 := n2_
         have HB := n3_
         clear n0_ n1_ n2_ n3_
         (try clear hb)
         (try clear hb2)
         (try clear hk)
         (try clear hi)
         refine hK.out _ _ ⟨HS0_, HS1_, HS2_⟩ (fun hHeld => ?_)
         clear hK K
         refine norm_ (a' := ?_) ?_ ?_
         rotate_left
         ·show Act.put _ (some 32) _ = _
          simp only [Act.put, List.setIfInBounds_toArray, List.set_cons_zero, List.set_cons_succ, i64_w, i32_w]
          rfl
         refine pure_ (i := 12) (N := some 33) (v := ?_) (a' := ?_) #[true, true, true, true, true, true, true, true, true, true, true, true, true, true, false] rfl rfl (any_of HT_.out (by kernel_rfl)) (fun _ _ _ h => h) (Or.inl ⟨by rfl, ?_⟩) ?_ ?_
         rotate_left
         ·intro w'
          go_simp
          with_reducible rfl
         rotate_left
         ·simp only [Act.put, List.setIfInBounds_toArray, List.set_cons_zero, List.set_cons_succ, i64_w, i32_w]
          rfl
         exact norm_ (by simp only [putAll, Act.put, List.setIfInBounds_toArray, List.set_cons_zero, List.set_cons_succ]) (hCont (gb723) _ ⟨hHeld, (by (with_reducible repeat (first | apply Kd.R_alloc | apply Kd.R_drewN | apply Kd.R_drew)); exact HO716.out), (by (with_reducible repeat (first | refine bN_ ?_ _ | refine bD_ ?_ | refine bA_ ?_ _)); exact BK710.out), (by (with_reducible repeat (first | refine bN_ ?_ _ | refine bD_ ?_ | refine bA_ ?_ _)); exact BK723.out), GW723.out, GE723.out, NB710_723.out, NB723_710.out, zb2⟩)
       ·skip
        refine box_step ?hg (N := 8) ?hd (cs := #[.int .i64 0, .int .i64 0, .int .i64 0, .slice none 0 0]) (t := 37) ?hr ?_; (case hd => rfl); (case hg => rfl); (case hr => first | (go_simp; done) | (go_simp; rfl))
        intro gb723 hg w21 hbox hb
        have HS0_ := (hb.cell (World.block_lt_of_cell? _ _ (hHeld.1))).trans (hHeld.1)
        have HS1_ := (hb.cell (World.block_lt_of_cell? _ _ (hHeld.2.1))).trans (hHeld.2.1)
        have HS2_ := (hb.cell (World.block_lt_of_cell? _ _ (hHeld.2.2))).trans (hHeld.2.2)
        have n0_ := Aside0.mk (Kd.R_below (by (with_reducible repeat (first | apply Kd.R_alloc | apply Kd.R_drewN | apply Kd.R_drew)); exact HO716.out) hb)
        have n1_ := Aside0.mk (blk_below (g := gb710) (o := .cells #[.int .i64 0, .int .i64 0, .int .i64 0, .slice none 0 0] 37 (0, 0)) (by (with_reducible repeat (first | refine bN_ ?_ _ | refine bD_ ?_ | refine bA_ ?_ _)); exact BK710.out) hb)
        have n2_ := Aside0.mk (below_step zb6 hb)
        have n3_ := Aside0.mk (hbox)
        have n4_ := Aside0.mk ((by rw [hg]; exact (below_size zb6) : w.heap.size ≤ gb723))
        have n5_ := Aside0.mk ((by rw [hg]; exact (below_size zb6) : w.heap.size ≤ gb723))
        have n6_ := Aside0.mk ((by rw [hg]; exact Nat.ne_of_lt (blk_lt (g := gb710) (o := .cells #[.int .i64 0, .int .i64 0, .int .i64 0, .slice none 0 0] 37 (0, 0)) (by (with_reducible repeat (first | refine bN_ ?_ _ | refine bD_ ?_ | refine bA_ ?_ _)); exact BK710.out)) : gb710 ≠ gb723))
        have n7_ := Aside0.mk ((by rw [hg]; exact Nat.ne_of_gt (blk_lt (g := gb710) (o := .cells #[.int .i64 0, .int .i64 0, .int .i64 0, .slice none 0 0] 37 (0, 0)) (by (with_reducible repeat (first | refine bN_ ?_ _ | refine bD_ ?_ | refine bA_ ?_ _)); exact BK710.out)) : gb723 ≠ gb710))
        clear HO716
        clear BK710
        clear HB
        have HO716 := n0_
        have BK710 := n1_
        have HB := n2_
        have BK723 := n3_
        have GW723 := n4_
        have GE723 := n5_
        have NB710_723 := n6_
        have NB723_710 := n7_
        clear n0_ n1_ n2_ n3_ n4_ n5_ n6_ n7_
        clear hb hbox hg
        refine hK.out _ _ ⟨HS0_, HS1_, HS2_⟩ (fun hHeld => ?_)
        clear hK K
        refine norm_ (a' := ?_) ?_ ?_
        rotate_left
        ·show Act.put _ (some 8) _ = _
         simp only [Act.put, List.setIfInBounds_toArray, List.set_cons_zero, List.set_cons_succ, i64_w, i32_w]
         rfl
        refine one_ (i := 7) (N := some 28) #[true, true, true, true, true, true, true, true, true, true, true, false, false, true, false] rfl rfl (one_of HT_.out (by kernel_rfl)) (by decide) (fun K hK => ?_)
        refine goes_ Tryd.func37 (by kernel_rfl) rfl #[.string (rdOf ByteArray.empty t714 1)] (by rfl) rfl rfl zb1 ?_
        with_reducible refine (impl_ReadDec.calls (rdOf ByteArray.empty t714 1) t720 _ ?side1 ?side2 A8.out).mono ?_
        (case side1 => exact Glob.below HGE.out zb2)
        (case side2 => exact Glob.below HGT.out zb2)
        rintro e w22 ⟨rfl, hb⟩
        have HS0_ := (hb.cell (World.block_lt_of_cell? _ _ (hHeld.1))).trans (hHeld.1)
        have HS1_ := (hb.cell (World.block_lt_of_cell? _ _ (hHeld.2.1))).trans (hHeld.2.1)
        have HS2_ := (hb.cell (World.block_lt_of_cell? _ _ (hHeld.2.2))).trans (hHeld.2.2)
        refine ⟨_, rfl, ?_⟩
        have n0_ := Aside0.mk (Kd.R_below (by (with_reducible repeat (first | apply Kd.R_alloc | apply Kd.R_drewN | apply Kd.R_drew)); exact HO716.out) hb)
        have n1_ := Aside0.mk (blk_below (g := gb710) (o := .cells #[.int .i64 0, .int .i64 0, .int .i64 0, .slice none 0 0] 37 (0, 0)) (by (with_reducible repeat (first | refine bN_ ?_ _ | refine bD_ ?_ | refine bA_ ?_ _)); exact BK710.out) hb)
        have n2_ := Aside0.mk (blk_below (g := gb723) (o := .cells #[.int .i64 0, .int .i64 0, .int .i64 0, .slice none 0 0] 37 (0, 0)) (by (with_reducible repeat (first | refine bN_ ?_ _ | refine bD_ ?_ | refine bA_ ?_ _)); exact BK723.out) hb)
        have n3_ := Aside0.mk (below_step zb2 hb)
        clear HO716
        clear BK710
        clear BK723
        clear HB
        have HO716 := n0_
        have BK710 := n1_
        have BK723 := n2_
        have HB := n3_
        clear n0_ n1_ n2_ n3_
        (try clear hb)
        (try clear hb2)
        (try clear hk)
        (try clear hi)
        refine hK.out _ _ ⟨HS0_, HS1_, HS2_⟩ (fun hHeld => ?_)
        clear hK K
        refine norm_ (a' := ?_) ?_ ?_
        rotate_left
        ·show Act.put _ (some 28) _ = _
         simp only [Act.put, List.setIfInBounds_toArray, List.set_cons_zero, List.set_cons_succ, i64_w, i32_w]
         rfl
        refine one_ (i := 11) (N := some 32) #[true, true, true, true, true, true, true, true, true, true, true, true, false, true, false] rfl rfl (one_of HT_.out (by kernel_rfl)) (by decide) (fun K hK => ?_)
        refine goes_ Tryd.func37 (by kernel_rfl) rfl #[.string (rdOf ByteArray.empty t714 2)] (by rfl) rfl rfl zb1 ?_
        with_reducible refine (impl_ReadDec.calls (rdOf ByteArray.empty t714 2) t722 _ ?side1 ?side2 A10.out).mono ?_
        (case side1 => exact Glob.below HGE.out zb2)
        (case side2 => exact Glob.below HGT.out zb2)
        rintro e w23 ⟨rfl, hb⟩
        have HS0_ := (hb.cell (World.block_lt_of_cell? _ _ (hHeld.1))).trans (hHeld.1)
        have HS1_ := (hb.cell (World.block_lt_of_cell? _ _ (hHeld.2.1))).trans (hHeld.2.1)
        have HS2_ := (hb.cell (World.block_lt_of_cell? _ _ (hHeld.2.2))).trans (hHeld.2.2)
        refine ⟨_, rfl, ?_⟩
        have n0_ := Aside0.mk (Kd.R_below (by (with_reducible repeat (first | apply Kd.R_alloc | apply Kd.R_drewN | apply Kd.R_drew)); exact HO716.out) hb)
        have n1_ := Aside0.mk (blk_below (g := gb710) (o := .cells #[.int .i64 0, .int .i64 0, .int .i64 0, .slice none 0 0] 37 (0, 0)) (by (with_reducible repeat (first | refine bN_ ?_ _ | refine bD_ ?_ | refine bA_ ?_ _)); exact BK710.out) hb)
        have n2_ := Aside0.mk (blk_below (g := gb723) (o := .cells #[.int .i64 0, .int .i64 0, .int .i64 0, .slice none 0 0] 37 (0, 0)) (by (with_reducible repeat (first | refine bN_ ?_ _ | refine bD_ ?_ | refine bA_ ?_ _)); exact BK723.out) hb)
        have n3_ := Aside0.mk (below_step zb2 hb)
        clear HO716
        clear BK710
        clear BK723
        clear HB
        have HO716 := n0_
        have BK710 := n1_
        have BK723 := n2_
        have HB := n3_
        clear n0_ n1_ n2_ n3_
        (try clear hb)
        (try clear hb2)
        (try clear hk)
        (try clear hi)
        refine hK.out _ _ ⟨HS0_, HS1_, HS2_⟩ (fun hHeld => ?_)
        clear hK K
        refine norm_ (a' := ?_) ?_ ?_
        rotate_left
        ·show Act.put _ (some 32) _ = _
         simp only [Act.put, List.setIfInBounds_toArray, List.set_cons_zero, List.set_cons_succ, i64_w, i32_w]
         rfl
        refine pure_ (i := 12) (N := some 33) (v := ?_) (a' := ?_) #[true, true, true, true, true, true, true, true, true, true, true, true, true, true, false] rfl rfl (any_of HT_.out (by kernel_rfl)) (fun _ _ _ h => h) (Or.inl ⟨by rfl, ?_⟩) ?_ ?_
        rotate_left
        ·intro w'
         go_simp
         with_reducible rfl
        rotate_left
        ·simp only [Act.put, List.setIfInBounds_toArray, List.set_cons_zero, List.set_cons_succ, i64_w, i32_w]
         rfl
        exact norm_ (by simp only [putAll, Act.put, List.setIfInBounds_toArray, List.set_cons_zero, List.set_cons_succ]) (hCont (gb723) _ ⟨hHeld, (by (with_reducible repeat (first | apply Kd.R_alloc | apply Kd.R_drewN | apply Kd.R_drew)); exact HO716.out), (by (with_reducible repeat (first | refine bN_ ?_ _ | refine bD_ ?_ | refine bA_ ?_ _)); exact BK710.out), (by (with_reducible repeat (first | refine bN_ ?_ _ | refine bD_ ?_ | refine bA_ ?_ _)); exact BK723.out), GW723.out, GE723.out, NB710_723.out, NB723_710.out, zb2⟩)
      ·skip
       refine box_step ?hg (N := 8) ?hd (cs := #[.int .i64 0, .int .i64 0, .int .i64 0, .slice none 0 0]) (t := 37) ?hr ?_; (case hd => rfl); (case hg => rfl); (case hr => first | (go_simp; done) | (go_simp; rfl))
       intro gb723 hg w20 hbox hb
       have HS0_ := (hb.cell (World.block_lt_of_cell? _ _ (hHeld.1))).trans (hHeld.1)
       have HS1_ := (hb.cell (World.block_lt_of_cell? _ _ (hHeld.2.1))).trans (hHeld.2.1)
       have HS2_ := (hb.cell (World.block_lt_of_cell? _ _ (hHeld.2.2))).trans (hHeld.2.2)
       have n0_ := Aside0.mk (Kd.R_below (by (with_reducible repeat (first | apply Kd.R_alloc | apply Kd.R_drewN | apply Kd.R_drew)); exact HO716.out) hb)
       have n1_ := Aside0.mk (blk_below (g := gb710) (o := .cells #[.int .i64 0, .int .i64 0, .int .i64 0, .slice none 0 0] 37 (0, 0)) (by (with_reducible repeat (first | refine bN_ ?_ _ | refine bD_ ?_ | refine bA_ ?_ _)); exact BK710.out) hb)
       have n2_ := Aside0.mk (below_step zb6 hb)
       have n3_ := Aside0.mk (hbox)
       have n4_ := Aside0.mk ((by rw [hg]; exact (below_size zb6) : w.heap.size ≤ gb723))
       have n5_ := Aside0.mk ((by rw [hg]; exact (below_size zb6) : w.heap.size ≤ gb723))
       have n6_ := Aside0.mk ((by rw [hg]; exact Nat.ne_of_lt (blk_lt (g := gb710) (o := .cells #[.int .i64 0, .int .i64 0, .int .i64 0, .slice none 0 0] 37 (0, 0)) (by (with_reducible repeat (first | refine bN_ ?_ _ | refine bD_ ?_ | refine bA_ ?_ _)); exact BK710.out)) : gb710 ≠ gb723))
       have n7_ := Aside0.mk ((by rw [hg]; exact Nat.ne_of_gt (blk_lt (g := gb710) (o := .cells #[.int .i64 0, .int .i64 0, .int .i64 0, .slice none 0 0] 37 (0, 0)) (by (with_reducible repeat (first | refine bN_ ?_ _ | refine bD_ ?_ | refine bA_ ?_ _)); exact BK710.out)) : gb723 ≠ gb710))
       clear HO716
       clear BK710
       clear HB
       have HO716 := n0_
       have BK710 := n1_
       have HB := n2_
       have BK723 := n3_
       have GW723 := n4_
       have GE723 := n5_
       have NB710_723 := n6_
       have NB723_710 := n7_
       clear n0_ n1_ n2_ n3_ n4_ n5_ n6_ n7_
       clear hb hbox hg
       refine hK.out _ _ ⟨HS0_, HS1_, HS2_⟩ (fun hHeld => ?_)
       clear hK K
       refine norm_ (a' := ?_) ?_ ?_
       rotate_left
       ·show Act.put _ (some 8) _ = _
        simp only [Act.put, List.setIfInBounds_toArray, List.set_cons_zero, List.set_cons_succ, i64_w, i32_w]
        rfl
       refine one_ (i := 3) (N := some 24) #[true, true, true, true, true, true, true, false, true, true, true, false, false, true, false] rfl rfl (one_of HT_.out (by kernel_rfl)) (by decide) (fun K hK => ?_)
       refine goes_ Tryd.func37 (by kernel_rfl) rfl #[.string (rdOf ByteArray.empty t714 0)] (by rfl) rfl rfl zb1 ?_
       with_reducible refine (impl_ReadDec.calls (rdOf ByteArray.empty t714 0) t718 _ ?side1 ?side2 A6.out).mono ?_
       (case side1 => exact Glob.below HGE.out zb2)
       (case side2 => exact Glob.below HGT.out zb2)
       rintro e w21 ⟨rfl, hb⟩
       have HS0_ := (hb.cell (World.block_lt_of_cell? _ _ (hHeld.1))).trans (hHeld.1)
       have HS1_ := (hb.cell (World.block_lt_of_cell? _ _ (hHeld.2.1))).trans (hHeld.2.1)
       have HS2_ := (hb.cell (World.block_lt_of_cell? _ _ (hHeld.2.2))).trans (hHeld.2.2)
       refine ⟨_, rfl, ?_⟩
       have n0_ := Aside0.mk (Kd.R_below (by (with_reducible repeat (first | apply Kd.R_alloc | apply Kd.R_drewN | apply Kd.R_drew)); exact HO716.out) hb)
       have n1_ := Aside0.mk (blk_below (g := gb710) (o := .cells #[.int .i64 0, .int .i64 0, .int .i64 0, .slice none 0 0] 37 (0, 0)) (by (with_reducible repeat (first | refine bN_ ?_ _ | refine bD_ ?_ | refine bA_ ?_ _)); exact BK710.out) hb)
       have n2_ := Aside0.mk (blk_below (g := gb723) (o := .cells #[.int .i64 0, .int .i64 0, .int .i64 0, .slice none 0 0] 37 (0, 0)) (by (with_reducible repeat (first | refine bN_ ?_ _ | refine bD_ ?_ | refine bA_ ?_ _)); exact BK723.out) hb)
       have n3_ := Aside0.mk (below_step zb2 hb)
       clear HO716
       clear BK710
       clear BK723
       clear HB
       have HO716 := n0_
       have BK710 := n1_
       have BK723 := n2_
       have HB := n3_
       clear n0_ n1_ n2_ n3_
       (try clear hb)
       (try clear hb2)
       (try clear hk)
       (try clear hi)
       refine hK.out _ _ ⟨HS0_, HS1_, HS2_⟩ (fun hHeld => ?_)
       clear hK K
       refine norm_ (a' := ?_) ?_ ?_
       rotate_left
       ·show Act.put _ (some 24) _ = _
        simp only [Act.put, List.setIfInBounds_toArray, List.set_cons_zero, List.set_cons_succ, i64_w, i32_w]
        rfl
       refine one_ (i := 7) (N := some 28) #[true, true, true, true, true, true, true, true, true, true, true, false, false, true, false] rfl rfl (one_of HT_.out (by kernel_rfl)) (by decide) (fun K hK => ?_)
       refine goes_ Tryd.func37 (by kernel_rfl) rfl #[.string (rdOf ByteArray.empty t714 1)] (by rfl) rfl rfl zb1 ?_
       with_reducible refine (impl_ReadDec.calls (rdOf ByteArray.empty t714 1) t720 _ ?side1 ?side2 A8.out).mono ?_
       (case side1 => exact Glob.below HGE.out zb2)
       (case side2 => exact Glob.below HGT.out zb2)
       rintro e w22 ⟨rfl, hb⟩
       have HS0_ := (hb.cell (World.block_lt_of_cell? _ _ (hHeld.1))).trans (hHeld.1)
       have HS1_ := (hb.cell (World.block_lt_of_cell? _ _ (hHeld.2.1))).trans (hHeld.2.1)
       have HS2_ := (hb.cell (World.block_lt_of_cell? _ _ (hHeld.2.2))).trans (hHeld.2.2)
       refine ⟨_, rfl, ?_⟩
       have n0_ := Aside0.mk (Kd.R_below (by (with_reducible repeat (first | apply Kd.R_alloc | apply Kd.R_drewN | apply Kd.R_drew)); exact HO716.out) hb)
       have n1_ := Aside0.mk (blk_below (g := gb710) (o := .cells #[.int .i64 0, .int .i64 0, .int .i64 0, .slice none 0 0] 37 (0, 0)) (by (with_reducible repeat (first | refine bN_ ?_ _ | refine bD_ ?_ | refine bA_ ?_ _)); exact BK710.out) hb)
       have n2_ := Aside0.mk (blk_below (g := gb723) (o := .cells #[.int .i64 0, .int .i64 0, .int .i64 0, .slice none 0 0] 37 (0, 0)) (by (with_reducible repeat (first | refine bN_ ?_ _ | refine bD_ ?_ | refine bA_ ?_ _)); exact BK723.out) hb)
       have n3_ := Aside0.mk (below_step zb2 hb)
       clear HO716
       clear BK710
       clear BK723
       clear HB
       have HO716 := n0_
       have BK710 := n1_
       have BK723 := n2_
       have HB := n3_
       clear n0_ n1_ n2_ n3_
       (try clear hb)
       (try clear hb2)
       (try clear hk)
       (try clear hi)
       refine hK.out _ _ ⟨HS0_, HS1_, HS2_⟩ (fun hHeld => ?_)
       clear hK K
       refine norm_ (a' := ?_) ?_ ?_
       rotate_left
       ·show Act.put _ (some 28) _ = _
        simp only [Act.put, List.setIfInBounds_toArray, List.set_cons_zero, List.set_cons_succ, i64_w, i32_w]
        rfl
       refine one_ (i := 11) (N := some 32) #[true, true, true, true, true, true, true, true, true, true, true, true, false, true, false] rfl rfl (one_of HT_.out (by kernel_rfl)) (by decide) (fun K hK => ?_)
       refine goes_ Tryd.func37 (by kernel_rfl) rfl #[.string (rdOf ByteArray.empty t714 2)] (by rfl) rfl rfl zb1 ?_
       with_reducible refine (impl_ReadDec.calls (rdOf ByteArray.empty t714 2) t722 _ ?side1 ?side2 A10.out).mono ?_
       (case side1 => exact Glob.below HGE.out zb2)
       (case side2 => exact Glob.below HGT.out zb2)
       rintro e w23 ⟨rfl, hb⟩
       have HS0_ := (hb.cell (World.block_lt_of_cell? _ _ (hHeld.1))).trans (hHeld.1)
       have HS1_ := (hb.cell (World.block_lt_of_cell? _ _ (hHeld.2.1))).trans (hHeld.2.1)
       have HS2_ := (hb.cell (World.block_lt_of_cell? _ _ (hHeld.2.2))).trans (hHeld.2.2)
       refine ⟨_, rfl, ?_⟩
       have n0_ := Aside0.mk (Kd.R_below (by (with_reducible repeat (first | apply Kd.R_alloc | apply Kd.R_drewN | apply Kd.R_drew)); exact HO716.out) hb)
       have n1_ := Aside0.mk (blk_below (g := gb710) (o := .cells #[.int .i64 0, .int .i64 0, .int .i64 0, .slice none 0 0] 37 (0, 0)) (by (with_reducible repeat (first | refine bN_ ?_ _ | refine bD_ ?_ | refine bA_ ?_ _)); exact BK710.out) hb)
       have n2_ := Aside0.mk (blk_below (g := gb723) (o := .cells #[.int .i64 0, .int .i64 0, .int .i64 0, .slice none 0 0] 37 (0, 0)) (by (with_reducible repeat (first | refine bN_ ?_ _ | refine bD_ ?_ | refine bA_ ?_ _)); exact BK723.out) hb)
       have n3_ := Aside0.mk (below_step zb2 hb)
       clear HO716
       clear BK710
       clear BK723
       clear HB
       have HO716 := n0_
       have BK710 := n1_
       have BK723 := n2_
       have HB := n3_
       clear n0_ n1_ n2_ n3_
       (try clear hb)
       (try clear hb2)
       (try clear hk)
       (try clear hi)
       refine hK.out _ _ ⟨HS0_, HS1_, HS2_⟩ (fun hHeld => ?_)
       clear hK K
       refine norm_ (a' := ?_) ?_ ?_
       rotate_left
       ·show Act.put _ (some 32) _ = _
        simp only [Act.put, List.setIfInBounds_toArray, List.set_cons_zero, List.set_cons_succ, i64_w, i32_w]
        rfl
       refine pure_ (i := 12) (N := some 33) (v := ?_) (a' := ?_) #[true, true, true, true, true, true, true, true, true, true, true, true, true, true, false] rfl rfl (any_of HT_.out (by kernel_rfl)) (fun _ _ _ h => h) (Or.inl ⟨by rfl, ?_⟩) ?_ ?_
       rotate_left
       ·intro w'
        go_simp
        with_reducible rfl
       rotate_left
       ·simp only [Act.put, List.setIfInBounds_toArray, List.set_cons_zero, List.set_cons_succ, i64_w, i32_w]
        rfl
       exact norm_ (by simp only [putAll, Act.put, List.setIfInBounds_toArray, List.set_cons_zero, List.set_cons_succ]) (hCont (gb723) _ ⟨hHeld, (by (with_reducible repeat (first | apply Kd.R_alloc | apply Kd.R_drewN | apply Kd.R_drew)); exact HO716.out), (by (with_reducible repeat (first | refine bN_ ?_ _ | refine bD_ ?_ | refine bA_ ?_ _)); exact BK710.out), (by (with_reducible repeat (first | refine bN_ ?_ _ | refine bD_ ?_ | refine bA_ ?_ _)); exact BK723.out), GW723.out, GE723.out, NB710_723.out, NB723_710.out, zb2⟩)
     rintro gb723 w24 ⟨hS_, h0_, h1_, h2_, h3_, h4_, h5_, h6_, h7_⟩
     have n0_ : Aside0 (Kd.R Kd.string 9 w24 w.heap.size (fun _ => True) (.slice (some ad717) t714.length co18) t714) := ⟨h0_⟩
     have n1_ : Aside0 (w24.heap[gb710]? = some (.cells #[.int .i64 0, .int .i64 0, .int .i64 0, .slice none 0 0] 37 (0, 0))) := ⟨h1_⟩
     have n2_ : Aside0 (w24.heap[gb723]? = some (.cells #[.int .i64 0, .int .i64 0, .int .i64 0, .slice none 0 0] 37 (0, 0))) := ⟨h2_⟩
     have n3_ : Aside0 (w.heap.size ≤ gb723) := ⟨h3_⟩
     have n4_ : Aside0 (w.heap.size ≤ gb723) := ⟨h4_⟩
     have n5_ : Aside0 (gb710 ≠ gb723) := ⟨h5_⟩
     have n6_ : Aside0 (gb723 ≠ gb710) := ⟨h6_⟩
     have n7_ : Aside0 (Below w.heap.size w w24) := ⟨h7_⟩
     clear HO716
     clear BK710
     clear HB
     clear h0_ h1_ h2_ h3_ h4_ h5_ h6_ h7_
     have HO716 := n0_
     have BK710 := n1_
     have BK723 := n2_
     have GW723 := n3_
     have GE723 := n4_
     have NB710_723 := n5_
     have NB723_710 := n6_
     have HB := n7_
     clear n0_ n1_ n2_ n3_ n4_ n5_ n6_ n7_
     have hHeld : w24.cell? ad717 = some (.string (rdOf ByteArray.empty t714 0)) ∧ w24.cell? ⟨ad717.block, ad717.off + 1, none⟩ = some (.string (rdOf ByteArray.empty t714 1)) ∧ w24.cell? ⟨ad717.block, ad717.off + 2, none⟩ = some (.string (rdOf ByteArray.empty t714 2)) := hS_
     refine norm_ (a' := ?_) ?_ ?_
     rotate_left
     ·simp only [putAll, Act.put, List.setIfInBounds_toArray, List.set_cons_zero, List.set_cons_succ]
      rfl
     refine one_ (i := 14) (N := none) #[true, true, true, true, true, true, true, true, true, true, true, true, true, true, true] rfl rfl (one_of HT_.out (by kernel_rfl)) (by decide) (fun K hK => ?_)
     have hs25 : w24.cell? ⟨gb723, 0, none⟩ = some (.int .i64 0) := (blk_cell BK723.out 0).trans rfl
     have hfs25 := blk_frozen BK723.out 0
     have hns25_0 := NB710_723.out
     have hms25_0 := NB723_710.out
     have hs26 : w24.cell? ⟨gb723, 1, none⟩ = some (.int .i64 0) := (blk_cell BK723.out 1).trans rfl
     have hfs26 := blk_frozen BK723.out 1
     have hns26_0 := NB710_723.out
     have hms26_0 := NB723_710.out
     have hs27 : w24.cell? ⟨gb723, 2, none⟩ = some (.int .i64 0) := (blk_cell BK723.out 2).trans rfl
     have hfs27 := blk_frozen BK723.out 2
     have hns27_0 := NB710_723.out
     have hms27_0 := NB723_710.out
     have hs28 : w24.cell? ⟨gb723, 3, none⟩ = some (.slice none 0 0) := (blk_cell BK723.out 3).trans rfl
     have hfs28 := blk_frozen BK723.out 3
     have hns28_0 := NB710_723.out
     have hms28_0 := NB723_710.out
     refine skip_ (w1 := ?_) (by rfl) rfl ?_ ?_
     rotate_left
     ·go_simp
      rfl
     refine hK.out _ _ ⟨((cell_far (p := ⟨gb723, _, none⟩) (by first | exact Kd.own_blk (Kd.R_ne HO716.out BK723.out (by decide)) | (rw [add_block]; exact Kd.own_blk (Kd.R_ne HO716.out BK723.out (by decide))) | (show (Addr.add _ _).block ≠ _; rw [add_block]; exact Kd.own_blk (Kd.R_ne HO716.out BK723.out (by decide))) | (dsimp only; exact Kd.own_blk (Kd.R_ne HO716.out BK723.out (by decide)))) _).trans (((cell_far (p := ⟨gb723, _, none⟩) (by first | exact Kd.own_blk (Kd.R_ne HO716.out BK723.out (by decide)) | (rw [add_block]; exact Kd.own_blk (Kd.R_ne HO716.out BK723.out (by decide))) | (show (Addr.add _ _).block ≠ _; rw [add_block]; exact Kd.own_blk (Kd.R_ne HO716.out BK723.out (by decide))) | (dsimp only; exact Kd.own_blk (Kd.R_ne HO716.out BK723.out (by decide)))) _).trans (((cell_far (p := ⟨gb723, _, none⟩) (by first | exact Kd.own_blk (Kd.R_ne HO716.out BK723.out (by decide)) | (rw [add_block]; exact Kd.own_blk (Kd.R_ne HO716.out BK723.out (by decide))) | (show (Addr.add _ _).block ≠ _; rw [add_block]; exact Kd.own_blk (Kd.R_ne HO716.out BK723.out (by decide))) | (dsimp only; exact Kd.own_blk (Kd.R_ne HO716.out BK723.out (by decide)))) _).trans (((cell_far (p := ⟨gb723, _, none⟩) (by first | exact Kd.own_blk (Kd.R_ne HO716.out BK723.out (by decide)) | (rw [add_block]; exact Kd.own_blk (Kd.R_ne HO716.out BK723.out (by decide))) | (show (Addr.add _ _).block ≠ _; rw [add_block]; exact Kd.own_blk (Kd.R_ne HO716.out BK723.out (by decide))) | (dsimp only; exact Kd.own_blk (Kd.R_ne HO716.out BK723.out (by decide)))) _).trans (hHeld.1)))))))), ((cell_far (p := ⟨gb723, _, none⟩) (by first | exact Kd.own_blk (Kd.R_ne HO716.out BK723.out (by decide)) | (rw [add_block]; exact Kd.own_blk (Kd.R_ne HO716.out BK723.out (by decide))) | (show (Addr.add _ _).block ≠ _; rw [add_block]; exact Kd.own_blk (Kd.R_ne HO716.out BK723.out (by decide))) | (dsimp only; exact Kd.own_blk (Kd.R_ne HO716.out BK723.out (by decide)))) _).trans (((cell_far (p := ⟨gb723, _, none⟩) (by first | exact Kd.own_blk (Kd.R_ne HO716.out BK723.out (by decide)) | (rw [add_block]; exact Kd.own_blk (Kd.R_ne HO716.out BK723.out (by decide))) | (show (Addr.add _ _).block ≠ _; rw [add_block]; exact Kd.own_blk (Kd.R_ne HO716.out BK723.out (by decide))) | (dsimp only; exact Kd.own_blk (Kd.R_ne HO716.out BK723.out (by decide)))) _).trans (((cell_far (p := ⟨gb723, _, none⟩) (by first | exact Kd.own_blk (Kd.R_ne HO716.out BK723.out (by decide)) | (rw [add_block]; exact Kd.own_blk (Kd.R_ne HO716.out BK723.out (by decide))) | (show (Addr.add _ _).block ≠ _; rw [add_block]; exact Kd.own_blk (Kd.R_ne HO716.out BK723.out (by decide))) | (dsimp only; exact Kd.own_blk (Kd.R_ne HO716.out BK723.out (by decide)))) _).trans (((cell_far (p := ⟨gb723, _, none⟩) (by first | exact Kd.own_blk (Kd.R_ne HO716.out BK723.out (by decide)) | (rw [add_block]; exact Kd.own_blk (Kd.R_ne HO716.out BK723.out (by decide))) | (show (Addr.add _ _).block ≠ _; rw [add_block]; exact Kd.own_blk (Kd.R_ne HO716.out BK723.out (by decide))) | (dsimp only; exact Kd.own_blk (Kd.R_ne HO716.out BK723.out (by decide)))) _).trans (hHeld.2.1)))))))), ((cell_far (p := ⟨gb723, _, none⟩) (by first | exact Kd.own_blk (Kd.R_ne HO716.out BK723.out (by decide)) | (rw [add_block]; exact Kd.own_blk (Kd.R_ne HO716.out BK723.out (by decide))) | (show (Addr.add _ _).block ≠ _; rw [add_block]; exact Kd.own_blk (Kd.R_ne HO716.out BK723.out (by decide))) | (dsimp only; exact Kd.own_blk (Kd.R_ne HO716.out BK723.out (by decide)))) _).trans (((cell_far (p := ⟨gb723, _, none⟩) (by first | exact Kd.own_blk (Kd.R_ne HO716.out BK723.out (by decide)) | (rw [add_block]; exact Kd.own_blk (Kd.R_ne HO716.out BK723.out (by decide))) | (show (Addr.add _ _).block ≠ _; rw [add_block]; exact Kd.own_blk (Kd.R_ne HO716.out BK723.out (by decide))) | (dsimp only; exact Kd.own_blk (Kd.R_ne HO716.out BK723.out (by decide)))) _).trans (((cell_far (p := ⟨gb723, _, none⟩) (by first | exact Kd.own_blk (Kd.R_ne HO716.out BK723.out (by decide)) | (rw [add_block]; exact Kd.own_blk (Kd.R_ne HO716.out BK723.out (by decide))) | (show (Addr.add _ _).block ≠ _; rw [add_block]; exact Kd.own_blk (Kd.R_ne HO716.out BK723.out (by decide))) | (dsimp only; exact Kd.own_blk (Kd.R_ne HO716.out BK723.out (by decide)))) _).trans (((cell_far (p := ⟨gb723, _, none⟩) (by first | exact Kd.own_blk (Kd.R_ne HO716.out BK723.out (by decide)) | (rw [add_block]; exact Kd.own_blk (Kd.R_ne HO716.out BK723.out (by decide))) | (show (Addr.add _ _).block ≠ _; rw [add_block]; exact Kd.own_blk (Kd.R_ne HO716.out BK723.out (by decide))) | (dsimp only; exact Kd.own_blk (Kd.R_ne HO716.out BK723.out (by decide)))) _).trans (hHeld.2.2))))))))⟩ (fun hHeld => ?_)
     clear hK K
     refine done_ (done_of HT_.out (by kernel_rfl)) ?_
     have H := HZ_.out
     clear HZ_
     by_cases c11 : t713 = true
     ·subst c11
      have H1 : ((strings_Split.f t712 (⟨#[46]⟩ : ByteArray)).bind fun t724 => ((impl_VersionText.f k t718 t720 t722 t724).bind fun t727 => (if t727.toList = a0.toList then (if a0.toList = ([] : List UInt8) then (some (0, 0, 0, ([] : List ByteArray), false)) else (some (t718, t720, t722, t724, true))) else (some (0, 0, 0, ([] : List ByteArray), false))))) = some (r1, r2, r3, r4, r5) := by rw [if_pos rfl] at H; exact H
      clear H
      have H := H1
      clear H1
      replace H := Option.bind_eq_some_iff.mp H
      obtain ⟨t724, A120, H⟩ := H
      replace H : ((impl_VersionText.f k t718 t720 t722 t724).bind fun t727 => (if t727.toList = a0.toList then (if a0.toList = ([] : List UInt8) then (some (0, 0, 0, ([] : List ByteArray), false)) else (some (t718, t720, t722, t724, true))) else (some (0, 0, 0, ([] : List ByteArray), false)))) = some (r1, r2, r3, r4, r5) := H
      have A12 := Aside0.mk A120
      clear A120
      replace H := Option.bind_eq_some_iff.mp H
      obtain ⟨t727, A130, H⟩ := H
      replace H : (if t727.toList = a0.toList then (if a0.toList = ([] : List UInt8) then (some (0, 0, 0, ([] : List ByteArray), false)) else (some (t718, t720, t722, t724, true))) else (some (0, 0, 0, ([] : List ByteArray), false))) = some (r1, r2, r3, r4, r5) := H
      have A13 := Aside0.mk A130
      clear A130
      by_cases c14 : t727.toList = a0.toList
      ·rw [if_pos c14] at H
       have c14b0 : (t727.toList == a0.toList) = true := beq_iff_eq.mpr c14
       have c14b1 : (t727.toList != a0.toList) = false := bne_eq_false_iff_eq.mpr c14
       clear c14
       by_cases c15 : a0.toList = ([] : List UInt8)
       ·rw [if_pos c15] at H
        have c15b0 : (a0.toList == ([] : List UInt8)) = true := beq_iff_eq.mpr c15
        have c15b1 : (a0.toList != ([] : List UInt8)) = false := bne_eq_false_iff_eq.mpr c15
        clear c15
        simp only [Option.some.injEq, Prod.mk.injEq] at H
        obtain ⟨rfl, rfl, rfl, rfl, rfl⟩ := H
        try go_wp2_with (first | ((with_reducible refine gate_callee (f := 78) rfl ?_); refine goesL_ (some 36) rfl rfl Tryd.func78 (by kernel_rfl) rfl #[.string t712, .string (⟨#[46]⟩ : ByteArray)] rfl zb1 ?_; (with_reducible refine (strings_Split.calls t712 (⟨#[46]⟩ : ByteArray) t724 _ ?side1 A12.out).mono ?_); (case side1 => exact Glob.below HGM.out zb2); rintro e w29 ⟨v725, rfl, ho0, hb⟩; refine ⟨_, rfl, ?_⟩; have n0_ := Aside0.mk (Kd.R_elder' (by (with_reducible repeat (first | apply Kd.R_alloc | apply Kd.R_drewN | apply Kd.R_drew)); exact (Kd.R_mono (Kd.R_far (p := ⟨gb723, 3, none⟩) (Kd.R_far (p := ⟨gb723, 2, none⟩) (Kd.R_far (p := ⟨gb723, 1, none⟩) (Kd.R_far (p := ⟨gb723, 0, none⟩) (Kd.R_types HO716.out BK723.out (by decide)) (fun _ hk => hk.2) (.int .i64 t718)) (fun _ hk => hk.2) (.int .i64 t720)) (fun _ hk => hk.2) (.int .i64 t722)) (fun _ hk => hk.2) (.slice none 0 0)) (fun _ h_ => h_.1))) (Kd.R_base ho0) hb); have n1_ := Aside0.mk (Kd.R_lower (Kd.R_new' ho0 (Kd.R_lt (by (with_reducible repeat (first | apply Kd.R_alloc | apply Kd.R_drewN | apply Kd.R_drew)); exact (Kd.R_mono (Kd.R_far (p := ⟨gb723, 3, none⟩) (Kd.R_far (p := ⟨gb723, 2, none⟩) (Kd.R_far (p := ⟨gb723, 1, none⟩) (Kd.R_far (p := ⟨gb723, 0, none⟩) (Kd.R_types HO716.out BK723.out (by decide)) (fun _ hk => hk.2) (.int .i64 t718)) (fun _ hk => hk.2) (.int .i64 t720)) (fun _ hk => hk.2) (.int .i64 t722)) (fun _ hk => hk.2) (.slice none 0 0)) (fun _ h_ => h_.1))))) (below_size zb2)); have n2_ := Aside0.mk (blk_below (g := gb710) (o := .cells #[.int .i64 0, .int .i64 0, .int .i64 0, .slice none 0 0] 37 (0, 0)) (by (with_reducible repeat (first | refine bN_ ?_ _ | refine bD_ ?_ | refine bA_ ?_ _)); refine blk_far ?_ NB710_723.out _; (with_reducible repeat (first | refine bN_ ?_ _ | refine bD_ ?_ | refine bA_ ?_ _)); refine blk_far ?_ NB710_723.out _; (with_reducible repeat (first | refine bN_ ?_ _ | refine bD_ ?_ | refine bA_ ?_ _)); refine blk_far ?_ NB710_723.out _; (with_reducible repeat (first | refine bN_ ?_ _ | refine bD_ ?_ | refine bA_ ?_ _)); refine blk_far ?_ NB710_723.out _; (with_reducible repeat (first | refine bN_ ?_ _ | refine bD_ ?_ | refine bA_ ?_ _)); exact BK710.out) hb); have n3_ := Aside0.mk (blk_below (g := gb723) (o := .cells #[.int .i64 t718, .int .i64 t720, .int .i64 t722, .slice none 0 0] 37 (0, 0)) (by (with_reducible repeat (first | refine bN_ ?_ _ | refine bD_ ?_ | refine bA_ ?_ _)); refine blk_put (cs := #[.int .i64 t718, .int .i64 t720, .int .i64 t722, .slice none 0 0]) ?_ 3 _ rfl; (with_reducible repeat (first | refine bN_ ?_ _ | refine bD_ ?_ | refine bA_ ?_ _)); refine blk_put (cs := #[.int .i64 t718, .int .i64 t720, .int .i64 0, .slice none 0 0]) ?_ 2 _ rfl; (with_reducible repeat (first | refine bN_ ?_ _ | refine bD_ ?_ | refine bA_ ?_ _)); refine blk_put (cs := #[.int .i64 t718, .int .i64 0, .int .i64 0, .slice none 0 0]) ?_ 1 _ rfl; (with_reducible repeat (first | refine bN_ ?_ _ | refine bD_ ?_ | refine bA_ ?_ _)); refine blk_put (cs := #[.int .i64 0, .int .i64 0, .int .i64 0, .slice none 0 0]) ?_ 0 _ rfl; (with_reducible repeat (first | refine bN_ ?_ _ | refine bD_ ?_ | refine bA_ ?_ _)); exact BK723.out) hb); have n4_ := Aside0.mk (below_step zb2 hb); clear HO716; clear BK710; clear BK723; clear HB; have HO716 := n0_; have HO726 := n1_; have BK710 := n2_; have BK723 := n3_; have HB := n4_; clear n0_ n1_ n2_ n3_ n4_; (try clear hb); (try clear hb2); (try clear hk); (try clear hi); (try clear ho0); obtain ⟨Ao30, co30, eo30⟩ := Kd.R_slice HO726.out; subst eo30; have hnb31 := NB723_710.out; have hnc31 := NB710_723.out; have hcz32_0 : w29.cell? ⟨gb723, 0, none⟩ = some (.int .i64 t718) := (blk_cell BK723.out 0).trans rfl; have hcz32_1 : w29.cell? ⟨gb723, 1, none⟩ = some (.int .i64 t720) := (blk_cell BK723.out 1).trans rfl; have hcz32_2 : w29.cell? ⟨gb723, 2, none⟩ = some (.int .i64 t722) := (blk_cell BK723.out 2).trans rfl; have hcz32_3 : w29.cell? ⟨gb723, 3, none⟩ = some (.slice none 0 0) := (blk_cell BK723.out 3).trans rfl; have hfz32_0 := blk_frozen BK723.out 0; have hfz32_1 := blk_frozen BK723.out 1; have hfz32_2 := blk_frozen BK723.out 2; have hfz32_3 := blk_frozen BK723.out 3) | ((with_reducible refine gate_callee (f := 48) rfl ?_); refine goesL_ (some 39) rfl rfl Tryd.func48 (by kernel_rfl) rfl #[.agg #[.int .i64 t718, .int .i64 t720, .int .i64 t722, .slice Ao30 t724.length co30]] rfl zb1 ?_; (with_reducible refine (impl_VersionText.calls k t718 t720 t722 _ _ t724 t727 _ ?side1 ?side2 ?side3 ?side4 A13.out).mono ?_); (case side1 => refine (Kd.R_reads' (e := 9) (base := w.heap.size) (ok := fun k_ => (True ∧ some k_ ≠ (.slice (some ad717) t714.length co18 : Value).ownBlock)) (n := t724.length) (c := co30) ?_).2.2; exact (by (with_reducible repeat (first | apply Kd.R_alloc | apply Kd.R_drewN | apply Kd.R_drew)); exact (Kd.R_mono (Kd.R_far (p := ⟨gb723, 3, none⟩) (Kd.R_types HO726.out BK723.out (by decide)) (fun _ hk => hk.2) (.slice Ao30 t724.length co30)) (fun _ h_ => h_.1)))); (case side2 => exact (Kd.R_reads' HO726.out).2.1); (case side3 => exact Glob.below HGE.out zb2); (case side4 => exact Glob.below HGT.out zb2); rintro e w33 ⟨rfl, hb⟩; refine ⟨_, rfl, ?_⟩; have n0_ := Aside0.mk (Kd.R_below (by (with_reducible repeat (first | apply Kd.R_alloc | apply Kd.R_drewN | apply Kd.R_drew)); exact (Kd.R_mono (Kd.R_far (p := ⟨gb723, 3, none⟩) (Kd.R_types HO716.out BK723.out (by decide)) (fun _ hk => hk.2) (.slice Ao30 t724.length co30)) (fun _ h_ => h_.1))) hb); have n1_ := Aside0.mk (Kd.R_below (by (with_reducible repeat (first | apply Kd.R_alloc | apply Kd.R_drewN | apply Kd.R_drew)); exact (Kd.R_mono (Kd.R_far (p := ⟨gb723, 3, none⟩) (Kd.R_types HO726.out BK723.out (by decide)) (fun _ hk => hk.2) (.slice Ao30 t724.length co30)) (fun _ h_ => h_.1))) hb); have n2_ := Aside0.mk (blk_below (g := gb710) (o := .cells #[.int .i64 0, .int .i64 0, .int .i64 0, .slice none 0 0] 37 (0, 0)) (by (with_reducible repeat (first | refine bN_ ?_ _ | refine bD_ ?_ | refine bA_ ?_ _)); refine blk_far ?_ NB710_723.out _; (with_reducible repeat (first | refine bN_ ?_ _ | refine bD_ ?_ | refine bA_ ?_ _)); exact BK710.out) hb); have n3_ := Aside0.mk (blk_below (g := gb723) (o := .cells #[.int .i64 t718, .int .i64 t720, .int .i64 t722, .slice Ao30 t724.length co30] 37 (0, 0)) (by (with_reducible repeat (first | refine bN_ ?_ _ | refine bD_ ?_ | refine bA_ ?_ _)); refine blk_put (cs := #[.int .i64 t718, .int .i64 t720, .int .i64 t722, .slice none 0 0]) ?_ 3 _ rfl; (with_reducible repeat (first | refine bN_ ?_ _ | refine bD_ ?_ | refine bA_ ?_ _)); exact BK723.out) hb); have n4_ := Aside0.mk (below_step zb2 hb); clear HO716; clear HO726; clear BK710; clear BK723; clear HB; have HO716 := n0_; have HO726 := n1_; have BK710 := n2_; have BK723 := n3_; have HB := n4_; clear n0_ n1_ n2_ n3_ n4_; (try clear hb); (try clear hb2); (try clear hk); (try clear hi); have hcz34_0 : w33.cell? ⟨gb710, 0, none⟩ = some (.int .i64 0) := (blk_cell BK710.out 0).trans rfl; have hcz34_1 : w33.cell? ⟨gb710, 1, none⟩ = some (.int .i64 0) := (blk_cell BK710.out 1).trans rfl; have hcz34_2 : w33.cell? ⟨gb710, 2, none⟩ = some (.int .i64 0) := (blk_cell BK710.out 2).trans rfl; have hcz34_3 : w33.cell? ⟨gb710, 3, none⟩ = some (.slice none 0 0) := (blk_cell BK710.out 3).trans rfl; have hfz34_0 := blk_frozen BK710.out 0; have hfz34_1 := blk_frozen BK710.out 1; have hfz34_2 := blk_frozen BK710.out 2; have hfz34_3 := blk_frozen BK710.out 3))
        refine bodyPost_ret (results_ct rfl _ _ gb710 37 #[.int .i64 0, .int .i64 0, .int .i64 0, .slice none 0 0] (0, 0) _ rfl (by (with_reducible repeat (first | refine bN_ ?_ _ | refine bD_ ?_ | refine bA_ ?_ _)); refine blk_put (cs := #[.int .i64 0, .int .i64 0, .int .i64 0, .slice none 0 0]) ?_ 3 _ rfl; (with_reducible repeat (first | refine bN_ ?_ _ | refine bD_ ?_ | refine bA_ ?_ _)); refine blk_put (cs := #[.int .i64 0, .int .i64 0, .int .i64 0, .slice none 0 0]) ?_ 2 _ rfl; (with_reducible repeat (first | refine bN_ ?_ _ | refine bD_ ?_ | refine bA_ ?_ _)); refine blk_put (cs := #[.int .i64 0, .int .i64 0, .int .i64 0, .slice none 0 0]) ?_ 1 _ rfl; (with_reducible repeat (first | refine bN_ ?_ _ | refine bD_ ?_ | refine bA_ ?_ _)); refine blk_put (cs := #[.int .i64 0, .int .i64 0, .int .i64 0, .slice none 0 0]) ?_ 0 _ rfl; (with_reducible repeat (first | refine bN_ ?_ _ | refine bD_ ?_ | refine bA_ ?_ _)); exact BK710.out) Tryd.underlying37 rfl (by kernel_rfl)) rfl ?_
        exact ⟨_, zb3, by first | exact Kd.R_nil _ _ _ _ _ | exact Kd.N_nil _ _ _ _ _ | exact Kd.V_nil _ _ _ _ _ | exact Kd.Q_nil _ _ _ _ _ | exact Kd.S_nil _ _ _ _ _, by repeat (first | (with_reducible first | exact HB.out | apply below_alloc | apply pw_below_drewN | apply below_drew1 | refine below_set ?_ GE710.out | refine below_set ?_ GE723.out) | exact HB.out)⟩
       ·rw [if_neg c15] at H
        have c15b0 : (a0.toList == ([] : List UInt8)) = false := beq_eq_false_iff_ne.mpr c15
        have c15b1 : (a0.toList != ([] : List UInt8)) = true := bne_iff_ne.mpr c15
        simp only [Option.some.injEq, Prod.mk.injEq] at H
        obtain ⟨rfl, rfl, rfl, rfl, rfl⟩ := H
        try go_wp2_with (first | ((with_reducible refine gate_callee (f := 78) rfl ?_); refine goesL_ (some 36) rfl rfl Tryd.func78 (by kernel_rfl) rfl #[.string t712, .string (⟨#[46]⟩ : ByteArray)] rfl zb1 ?_; (with_reducible refine (strings_Split.calls t712 (⟨#[46]⟩ : ByteArray) t724 _ ?side1 A12.out).mono ?_); (case side1 => exact Glob.below HGM.out zb2); rintro e w48 ⟨v725, rfl, ho0, hb⟩; refine ⟨_, rfl, ?_⟩; have n0_ := Aside0.mk (Kd.R_elder' (by (with_reducible repeat (first | apply Kd.R_alloc | apply Kd.R_drewN | apply Kd.R_drew)); exact (Kd.R_mono (Kd.R_far (p := ⟨gb723, 3, none⟩) (Kd.R_far (p := ⟨gb723, 2, none⟩) (Kd.R_far (p := ⟨gb723, 1, none⟩) (Kd.R_far (p := ⟨gb723, 0, none⟩) (Kd.R_types HO716.out BK723.out (by decide)) (fun _ hk => hk.2) (.int .i64 t718)) (fun _ hk => hk.2) (.int .i64 t720)) (fun _ hk => hk.2) (.int .i64 t722)) (fun _ hk => hk.2) (.slice none 0 0)) (fun _ h_ => h_.1))) (Kd.R_base ho0) hb); have n1_ := Aside0.mk (Kd.R_lower (Kd.R_new' ho0 (Kd.R_lt (by (with_reducible repeat (first | apply Kd.R_alloc | apply Kd.R_drewN | apply Kd.R_drew)); exact (Kd.R_mono (Kd.R_far (p := ⟨gb723, 3, none⟩) (Kd.R_far (p := ⟨gb723, 2, none⟩) (Kd.R_far (p := ⟨gb723, 1, none⟩) (Kd.R_far (p := ⟨gb723, 0, none⟩) (Kd.R_types HO716.out BK723.out (by decide)) (fun _ hk => hk.2) (.int .i64 t718)) (fun _ hk => hk.2) (.int .i64 t720)) (fun _ hk => hk.2) (.int .i64 t722)) (fun _ hk => hk.2) (.slice none 0 0)) (fun _ h_ => h_.1))))) (below_size zb2)); have n2_ := Aside0.mk (blk_below (g := gb710) (o := .cells #[.int .i64 0, .int .i64 0, .int .i64 0, .slice none 0 0] 37 (0, 0)) (by (with_reducible repeat (first | refine bN_ ?_ _ | refine bD_ ?_ | refine bA_ ?_ _)); refine blk_far ?_ NB710_723.out _; (with_reducible repeat (first | refine bN_ ?_ _ | refine bD_ ?_ | refine bA_ ?_ _)); refine blk_far ?_ NB710_723.out _; (with_reducible repeat (first | refine bN_ ?_ _ | refine bD_ ?_ | refine bA_ ?_ _)); refine blk_far ?_ NB710_723.out _; (with_reducible repeat (first | refine bN_ ?_ _ | refine bD_ ?_ | refine bA_ ?_ _)); refine blk_far ?_ NB710_723.out _; (with_reducible repeat (first | refine bN_ ?_ _ | refine bD_ ?_ | refine bA_ ?_ _)); exact BK710.out) hb); have n3_ := Aside0.mk (blk_below (g := gb723) (o := .cells #[.int .i64 t718, .int .i64 t720, .int .i64 t722, .slice none 0 0] 37 (0, 0)) (by (with_reducible repeat (first | refine bN_ ?_ _ | refine bD_ ?_ | refine bA_ ?_ _)); refine blk_put (cs := #[.int .i64 t718, .int .i64 t720, .int .i64 t722, .slice none 0 0]) ?_ 3 _ rfl; (with_reducible repeat (first | refine bN_ ?_ _ | refine bD_ ?_ | refine bA_ ?_ _)); refine blk_put (cs := #[.int .i64 t718, .int .i64 t720, .int .i64 0, .slice none 0 0]) ?_ 2 _ rfl; (with_reducible repeat (first | refine bN_ ?_ _ | refine bD_ ?_ | refine bA_ ?_ _)); refine blk_put (cs := #[.int .i64 t718, .int .i64 0, .int .i64 0, .slice none 0 0]) ?_ 1 _ rfl; (with_reducible repeat (first | refine bN_ ?_ _ | refine bD_ ?_ | refine bA_ ?_ _)); refine blk_put (cs := #[.int .i64 0, .int .i64 0, .int .i64 0, .slice none 0 0]) ?_ 0 _ rfl; (with_reducible repeat (first | refine bN_ ?_ _ | refine bD_ ?_ | refine bA_ ?_ _)); exact BK723.out) hb); have n4_ := Aside0.mk (below_step zb2 hb); clear HO716; clear BK710; clear BK723; clear HB; have HO716 := n0_; have HO726 := n1_; have BK710 := n2_; have BK723 := n3_; have HB := n4_; clear n0_ n1_ n2_ n3_ n4_; (try clear hb); (try clear hb2); (try clear hk); (try clear hi); (try clear ho0); obtain ⟨Ao49, co49, eo49⟩ := Kd.R_slice HO726.out; subst eo49; have hnb50 := NB723_710.out; have hnc50 := NB710_723.out; have hcz51_0 : w48.cell? ⟨gb723, 0, none⟩ = some (.int .i64 t718) := (blk_cell BK723.out 0).trans rfl; have hcz51_1 : w48.cell? ⟨gb723, 1, none⟩ = some (.int .i64 t720) := (blk_cell BK723.out 1).trans rfl; have hcz51_2 : w48.cell? ⟨gb723, 2, none⟩ = some (.int .i64 t722) := (blk_cell BK723.out 2).trans rfl; have hcz51_3 : w48.cell? ⟨gb723, 3, none⟩ = some (.slice none 0 0) := (blk_cell BK723.out 3).trans rfl; have hfz51_0 := blk_frozen BK723.out 0; have hfz51_1 := blk_frozen BK723.out 1; have hfz51_2 := blk_frozen BK723.out 2; have hfz51_3 := blk_frozen BK723.out 3) | ((with_reducible refine gate_callee (f := 48) rfl ?_); refine goesL_ (some 39) rfl rfl Tryd.func48 (by kernel_rfl) rfl #[.agg #[.int .i64 t718, .int .i64 t720, .int .i64 t722, .slice Ao49 t724.length co49]] rfl zb1 ?_; (with_reducible refine (impl_VersionText.calls k t718 t720 t722 _ _ t724 t727 _ ?side1 ?side2 ?side3 ?side4 A13.out).mono ?_); (case side1 => refine (Kd.R_reads' (e := 9) (base := w.heap.size) (ok := fun k_ => (True ∧ some k_ ≠ (.slice (some ad717) t714.length co18 : Value).ownBlock)) (n := t724.length) (c := co49) ?_).2.2; exact (by (with_reducible repeat (first | apply Kd.R_alloc | apply Kd.R_drewN | apply Kd.R_drew)); exact (Kd.R_mono (Kd.R_far (p := ⟨gb723, 3, none⟩) (Kd.R_types HO726.out BK723.out (by decide)) (fun _ hk => hk.2) (.slice Ao49 t724.length co49)) (fun _ h_ => h_.1)))); (case side2 => exact (Kd.R_reads' HO726.out).2.1); (case side3 => exact Glob.below HGE.out zb2); (case side4 => exact Glob.below HGT.out zb2); rintro e w52 ⟨rfl, hb⟩; refine ⟨_, rfl, ?_⟩; have n0_ := Aside0.mk (Kd.R_below (by (with_reducible repeat (first | apply Kd.R_alloc | apply Kd.R_drewN | apply Kd.R_drew)); exact (Kd.R_mono (Kd.R_far (p := ⟨gb723, 3, none⟩) (Kd.R_types HO716.out BK723.out (by decide)) (fun _ hk => hk.2) (.slice Ao49 t724.length co49)) (fun _ h_ => h_.1))) hb); have n1_ := Aside0.mk (Kd.R_below (by (with_reducible repeat (first | apply Kd.R_alloc | apply Kd.R_drewN | apply Kd.R_drew)); exact (Kd.R_mono (Kd.R_far (p := ⟨gb723, 3, none⟩) (Kd.R_types HO726.out BK723.out (by decide)) (fun _ hk => hk.2) (.slice Ao49 t724.length co49)) (fun _ h_ => h_.1))) hb); have n2_ := Aside0.mk (blk_below (g := gb710) (o := .cells #[.int .i64 0, .int .i64 0, .int .i64 0, .slice none 0 0] 37 (0, 0)) (by (with_reducible repeat (first | refine bN_ ?_ _ | refine bD_ ?_ | refine bA_ ?_ _)); refine blk_far ?_ NB710_723.out _; (with_reducible repeat (first | refine bN_ ?_ _ | refine bD_ ?_ | refine bA_ ?_ _)); exact BK710.out) hb); have n3_ := Aside0.mk (blk_below (g := gb723) (o := .cells #[.int .i64 t718, .int .i64 t720, .int .i64 t722, .slice Ao49 t724.length co49] 37 (0, 0)) (by (with_reducible repeat (first | refine bN_ ?_ _ | refine bD_ ?_ | refine bA_ ?_ _)); refine blk_put (cs := #[.int .i64 t718, .int .i64 t720, .int .i64 t722, .slice none 0 0]) ?_ 3 _ rfl; (with_reducible repeat (first | refine bN_ ?_ _ | refine bD_ ?_ | refine bA_ ?_ _)); exact BK723.out) hb); have n4_ := Aside0.mk (below_step zb2 hb); clear HO716; clear HO726; clear BK710; clear BK723; clear HB; have HO716 := n0_; have HO726 := n1_; have BK710 := n2_; have BK723 := n3_; have HB := n4_; clear n0_ n1_ n2_ n3_ n4_; (try clear hb); (try clear hb2); (try clear hk); (try clear hi); have hcz53_0 : w52.cell? ⟨gb723, 0, none⟩ = some (.int .i64 t718) := (blk_cell BK723.out 0).trans rfl; have hcz53_1 : w52.cell? ⟨gb723, 1, none⟩ = some (.int .i64 t720) := (blk_cell BK723.out 1).trans rfl; have hcz53_2 : w52.cell? ⟨gb723, 2, none⟩ = some (.int .i64 t722) := (blk_cell BK723.out 2).trans rfl; have hcz53_3 : w52.cell? ⟨gb723, 3, none⟩ = some (.slice Ao49 t724.length co49) := (blk_cell BK723.out 3).trans rfl; have hfz53_0 := blk_frozen BK723.out 0; have hfz53_1 := blk_frozen BK723.out 1; have hfz53_2 := blk_frozen BK723.out 2; have hfz53_3 := blk_frozen BK723.out 3; have hcz54_0 : w52.cell? ⟨gb710, 0, none⟩ = some (.int .i64 0) := (blk_cell BK710.out 0).trans rfl; have hcz54_1 : w52.cell? ⟨gb710, 1, none⟩ = some (.int .i64 0) := (blk_cell BK710.out 1).trans rfl; have hcz54_2 : w52.cell? ⟨gb710, 2, none⟩ = some (.int .i64 0) := (blk_cell BK710.out 2).trans rfl; have hcz54_3 : w52.cell? ⟨gb710, 3, none⟩ = some (.slice none 0 0) := (blk_cell BK710.out 3).trans rfl; have hfz54_0 := blk_frozen BK710.out 0; have hfz54_1 := blk_frozen BK710.out 1; have hfz54_2 := blk_frozen BK710.out 2; have hfz54_3 := blk_frozen BK710.out 3))
        refine bodyPost_ret (results_ct rfl _ _ gb710 37 #[.int .i64 t718, .int .i64 t720, .int .i64 t722, .slice Ao49 t724.length co49] (0, 0) _ rfl (by (with_reducible repeat (first | refine bN_ ?_ _ | refine bD_ ?_ | refine bA_ ?_ _)); refine blk_put (cs := #[.int .i64 t718, .int .i64 t720, .int .i64 t722, .slice none 0 0]) ?_ 3 _ rfl; (with_reducible repeat (first | refine bN_ ?_ _ | refine bD_ ?_ | refine bA_ ?_ _)); refine blk_put (cs := #[.int .i64 t718, .int .i64 t720, .int .i64 0, .slice none 0 0]) ?_ 2 _ rfl; (with_reducible repeat (first | refine bN_ ?_ _ | refine bD_ ?_ | refine bA_ ?_ _)); refine blk_put (cs := #[.int .i64 t718, .int .i64 0, .int .i64 0, .slice none 0 0]) ?_ 1 _ rfl; (with_reducible repeat (first | refine bN_ ?_ _ | refine bD_ ?_ | refine bA_ ?_ _)); refine blk_put (cs := #[.int .i64 0, .int .i64 0, .int .i64 0, .slice none 0 0]) ?_ 0 _ rfl; (with_reducible repeat (first | refine bN_ ?_ _ | refine bD_ ?_ | refine bA_ ?_ _)); exact BK710.out) Tryd.underlying37 rfl (by kernel_rfl)) rfl ?_
        exact ⟨_, zb3, by (with_reducible repeat (first | apply Kd.R_alloc | apply Kd.R_drewN | apply Kd.R_drew)); exact Kd.R_mono (Kd.R_far (p := ⟨gb710, 3, none⟩) (Kd.R_far (p := ⟨gb710, 2, none⟩) (Kd.R_far (p := ⟨gb710, 1, none⟩) (Kd.R_far (p := ⟨gb710, 0, none⟩) (Kd.R_types HO726.out BK710.out (by decide)) (fun _ hk => hk.2) (.int .i64 t718)) (fun _ hk => hk.2) (.int .i64 t720)) (fun _ hk => hk.2) (.int .i64 t722)) (fun _ hk => hk.2) (.slice Ao49 t724.length co49)) (fun _ hk => trivial), by repeat (first | (with_reducible first | exact HB.out | apply below_alloc | apply pw_below_drewN | apply below_drew1 | refine below_set ?_ GE710.out | refine below_set ?_ GE723.out) | exact HB.out)⟩
      ·rw [if_neg c14] at H
       have c14b0 : (t727.toList == a0.toList) = false := beq_eq_false_iff_ne.mpr c14
       have c14b1 : (t727.toList != a0.toList) = true := bne_iff_ne.mpr c14
       simp only [Option.some.injEq, Prod.mk.injEq] at H
       obtain ⟨rfl, rfl, rfl, rfl, rfl⟩ := H
       try go_wp2_with (first | ((with_reducible refine gate_callee (f := 78) rfl ?_); refine goesL_ (some 36) rfl rfl Tryd.func78 (by kernel_rfl) rfl #[.string t712, .string (⟨#[46]⟩ : ByteArray)] rfl zb1 ?_; (with_reducible refine (strings_Split.calls t712 (⟨#[46]⟩ : ByteArray) t724 _ ?side1 A12.out).mono ?_); (case side1 => exact Glob.below HGM.out zb2); rintro e w68 ⟨v725, rfl, ho0, hb⟩; refine ⟨_, rfl, ?_⟩; have n0_ := Aside0.mk (Kd.R_elder' (by (with_reducible repeat (first | apply Kd.R_alloc | apply Kd.R_drewN | apply Kd.R_drew)); exact (Kd.R_mono (Kd.R_far (p := ⟨gb723, 3, none⟩) (Kd.R_far (p := ⟨gb723, 2, none⟩) (Kd.R_far (p := ⟨gb723, 1, none⟩) (Kd.R_far (p := ⟨gb723, 0, none⟩) (Kd.R_types HO716.out BK723.out (by decide)) (fun _ hk => hk.2) (.int .i64 t718)) (fun _ hk => hk.2) (.int .i64 t720)) (fun _ hk => hk.2) (.int .i64 t722)) (fun _ hk => hk.2) (.slice none 0 0)) (fun _ h_ => h_.1))) (Kd.R_base ho0) hb); have n1_ := Aside0.mk (Kd.R_lower (Kd.R_new' ho0 (Kd.R_lt (by (with_reducible repeat (first | apply Kd.R_alloc | apply Kd.R_drewN | apply Kd.R_drew)); exact (Kd.R_mono (Kd.R_far (p := ⟨gb723, 3, none⟩) (Kd.R_far (p := ⟨gb723, 2, none⟩) (Kd.R_far (p := ⟨gb723, 1, none⟩) (Kd.R_far (p := ⟨gb723, 0, none⟩) (Kd.R_types HO716.out BK723.out (by decide)) (fun _ hk => hk.2) (.int .i64 t718)) (fun _ hk => hk.2) (.int .i64 t720)) (fun _ hk => hk.2) (.int .i64 t722)) (fun _ hk => hk.2) (.slice none 0 0)) (fun _ h_ => h_.1))))) (below_size zb2)); have n2_ := Aside0.mk (blk_below (g := gb710) (o := .cells #[.int .i64 0, .int .i64 0, .int .i64 0, .slice none 0 0] 37 (0, 0)) (by (with_reducible repeat (first | refine bN_ ?_ _ | refine bD_ ?_ | refine bA_ ?_ _)); refine blk_far ?_ NB710_723.out _; (with_reducible repeat (first | refine bN_ ?_ _ | refine bD_ ?_ | refine bA_ ?_ _)); refine blk_far ?_ NB710_723.out _; (with_reducible repeat (first | refine bN_ ?_ _ | refine bD_ ?_ | refine bA_ ?_ _)); refine blk_far ?_ NB710_723.out _; (with_reducible repeat (first | refine bN_ ?_ _ | refine bD_ ?_ | refine bA_ ?_ _)); refine blk_far ?_ NB710_723.out _; (with_reducible repeat (first | refine bN_ ?_ _ | refine bD_ ?_ | refine bA_ ?_ _)); exact BK710.out) hb); have n3_ := Aside0.mk (blk_below (g := gb723) (o := .cells #[.int .i64 t718, .int .i64 t720, .int .i64 t722, .slice none 0 0] 37 (0, 0)) (by (with_reducible repeat (first | refine bN_ ?_ _ | refine bD_ ?_ | refine bA_ ?_ _)); refine blk_put (cs := #[.int .i64 t718, .int .i64 t720, .int .i64 t722, .slice none 0 0]) ?_ 3 _ rfl; (with_reducible repeat (first | refine bN_ ?_ _ | refine bD_ ?_ | refine bA_ ?_ _)); refine blk_put (cs := #[.int .i64 t718, .int .i64 t720, .int .i64 0, .slice none 0 0]) ?_ 2 _ rfl; (with_reducible repeat (first | refine bN_ ?_ _ | refine bD_ ?_ | refine bA_ ?_ _)); refine blk_put (cs := #[.int .i64 t718, .int .i64 0, .int .i64 0, .slice none 0 0]) ?_ 1 _ rfl; (with_reducible repeat (first | refine bN_ ?_ _ | refine bD_ ?_ | refine bA_ ?_ _)); refine blk_put (cs := #[.int .i64 0, .int .i64 0, .int .i64 0, .slice none 0 0]) ?_ 0 _ rfl; (with_reducible repeat (first | refine bN_ ?_ _ | refine bD_ ?_ | refine bA_ ?_ _)); exact BK723.out) hb); have n4_ := Aside0.mk (below_step zb2 hb); clear HO716; clear BK710; clear BK723; clear HB; have HO716 := n0_; have HO726 := n1_; have BK710 := n2_; have BK723 := n3_; have HB := n4_; clear n0_ n1_ n2_ n3_ n4_; (try clear hb); (try clear hb2); (try clear hk); (try clear hi); (try clear ho0); obtain ⟨Ao69, co69, eo69⟩ := Kd.R_slice HO726.out; subst eo69; have hnb70 := NB723_710.out; have hnc70 := NB710_723.out; have hcz71_0 : w68.cell? ⟨gb723, 0, none⟩ = some (.int .i64 t718) := (blk_cell BK723.out 0).trans rfl; have hcz71_1 : w68.cell? ⟨gb723, 1, none⟩ = some (.int .i64 t720) := (blk_cell BK723.out 1).trans rfl; have hcz71_2 : w68.cell? ⟨gb723, 2, none⟩ = some (.int .i64 t722) := (blk_cell BK723.out 2).trans rfl; have hcz71_3 : w68.cell? ⟨gb723, 3, none⟩ = some (.slice none 0 0) := (blk_cell BK723.out 3).trans rfl; have hfz71_0 := blk_frozen BK723.out 0; have hfz71_1 := blk_frozen BK723.out 1; have hfz71_2 := blk_frozen BK723.out 2; have hfz71_3 := blk_frozen BK723.out 3) | ((with_reducible refine gate_callee (f := 48) rfl ?_); refine goesL_ (some 39) rfl rfl Tryd.func48 (by kernel_rfl) rfl #[.agg #[.int .i64 t718, .int .i64 t720, .int .i64 t722, .slice Ao69 t724.length co69]] rfl zb1 ?_; (with_reducible refine (impl_VersionText.calls k t718 t720 t722 _ _ t724 t727 _ ?side1 ?side2 ?side3 ?side4 A13.out).mono ?_); (case side1 => refine (Kd.R_reads' (e := 9) (base := w.heap.size) (ok := fun k_ => (True ∧ some k_ ≠ (.slice (some ad717) t714.length co18 : Value).ownBlock)) (n := t724.length) (c := co69) ?_).2.2; exact (by (with_reducible repeat (first | apply Kd.R_alloc | apply Kd.R_drewN | apply Kd.R_drew)); exact (Kd.R_mono (Kd.R_far (p := ⟨gb723, 3, none⟩) (Kd.R_types HO726.out BK723.out (by decide)) (fun _ hk => hk.2) (.slice Ao69 t724.length co69)) (fun _ h_ => h_.1)))); (case side2 => exact (Kd.R_reads' HO726.out).2.1); (case side3 => exact Glob.below HGE.out zb2); (case side4 => exact Glob.below HGT.out zb2); rintro e w72 ⟨rfl, hb⟩; refine ⟨_, rfl, ?_⟩; have n0_ := Aside0.mk (Kd.R_below (by (with_reducible repeat (first | apply Kd.R_alloc | apply Kd.R_drewN | apply Kd.R_drew)); exact (Kd.R_mono (Kd.R_far (p := ⟨gb723, 3, none⟩) (Kd.R_types HO716.out BK723.out (by decide)) (fun _ hk => hk.2) (.slice Ao69 t724.length co69)) (fun _ h_ => h_.1))) hb); have n1_ := Aside0.mk (Kd.R_below (by (with_reducible repeat (first | apply Kd.R_alloc | apply Kd.R_drewN | apply Kd.R_drew)); exact (Kd.R_mono (Kd.R_far (p := ⟨gb723, 3, none⟩) (Kd.R_types HO726.out BK723.out (by decide)) (fun _ hk => hk.2) (.slice Ao69 t724.length co69)) (fun _ h_ => h_.1))) hb); have n2_ := Aside0.mk (blk_below (g := gb710) (o := .cells #[.int .i64 0, .int .i64 0, .int .i64 0, .slice none 0 0] 37 (0, 0)) (by (with_reducible repeat (first | refine bN_ ?_ _ | refine bD_ ?_ | refine bA_ ?_ _)); refine blk_far ?_ NB710_723.out _; (with_reducible repeat (first | refine bN_ ?_ _ | refine bD_ ?_ | refine bA_ ?_ _)); exact BK710.out) hb); have n3_ := Aside0.mk (blk_below (g := gb723) (o := .cells #[.int .i64 t718, .int .i64 t720, .int .i64 t722, .slice Ao69 t724.length co69] 37 (0, 0)) (by (with_reducible repeat (first | refine bN_ ?_ _ | refine bD_ ?_ | refine bA_ ?_ _)); refine blk_put (cs := #[.int .i64 t718, .int .i64 t720, .int .i64 t722, .slice none 0 0]) ?_ 3 _ rfl; (with_reducible repeat (first | refine bN_ ?_ _ | refine bD_ ?_ | refine bA_ ?_ _)); exact BK723.out) hb); have n4_ := Aside0.mk (below_step zb2 hb); clear HO716; clear HO726; clear BK710; clear BK723; clear HB; have HO716 := n0_; have HO726 := n1_; have BK710 := n2_; have BK723 := n3_; have HB := n4_; clear n0_ n1_ n2_ n3_ n4_; (try clear hb); (try clear hb2); (try clear hk); (try clear hi); have hcz73_0 : w72.cell? ⟨gb710, 0, none⟩ = some (.int .i64 0) := (blk_cell BK710.out 0).trans rfl; have hcz73_1 : w72.cell? ⟨gb710, 1, none⟩ = some (.int .i64 0) := (blk_cell BK710.out 1).trans rfl; have hcz73_2 : w72.cell? ⟨gb710, 2, none⟩ = some (.int .i64 0) := (blk_cell BK710.out 2).trans rfl; have hcz73_3 : w72.cell? ⟨gb710, 3, none⟩ = some (.slice none 0 0) := (blk_cell BK710.out 3).trans rfl; have hfz73_0 := blk_frozen BK710.out 0; have hfz73_1 := blk_frozen BK710.out 1; have hfz73_2 := blk_frozen BK710.out 2; have hfz73_3 := blk_frozen BK710.out 3))
       refine bodyPost_ret (results_ct rfl _ _ gb710 37 #[.int .i64 0, .int .i64 0, .int .i64 0, .slice none 0 0] (0, 0) _ rfl (by (with_reducible repeat (first | refine bN_ ?_ _ | refine bD_ ?_ | refine bA_ ?_ _)); refine blk_put (cs := #[.int .i64 0, .int .i64 0, .int .i64 0, .slice none 0 0]) ?_ 3 _ rfl; (with_reducible repeat (first | refine bN_ ?_ _ | refine bD_ ?_ | refine bA_ ?_ _)); refine blk_put (cs := #[.int .i64 0, .int .i64 0, .int .i64 0, .slice none 0 0]) ?_ 2 _ rfl; (with_reducible repeat (first | refine bN_ ?_ _ | refine bD_ ?_ | refine bA_ ?_ _)); refine blk_put (cs := #[.int .i64 0, .int .i64 0, .int .i64 0, .slice none 0 0]) ?_ 1 _ rfl; (with_reducible repeat (first | refine bN_ ?_ _ | refine bD_ ?_ | refine bA_ ?_ _)); refine blk_put (cs := #[.int .i64 0, .int .i64 0, .int .i64 0, .slice none 0 0]) ?_ 0 _ rfl; (with_reducible repeat (first | refine bN_ ?_ _ | refine bD_ ?_ | refine bA_ ?_ _)); exact BK710.out) Tryd.underlying37 rfl (by kernel_rfl)) rfl ?_
       exact ⟨_, zb3, by first | exact Kd.R_nil _ _ _ _ _ | exact Kd.N_nil _ _ _ _ _ | exact Kd.V_nil _ _ _ _ _ | exact Kd.Q_nil _ _ _ _ _ | exact Kd.S_nil _ _ _ _ _, by repeat (first | (with_reducible first | exact HB.out | apply below_alloc | apply pw_below_drewN | apply below_drew1 | refine below_set ?_ GE710.out | refine below_set ?_ GE723.out) | exact HB.out)⟩
     ·replace c11 := Bool.eq_false_iff.mpr c11
      subst c11
      have H1 : ((impl_VersionText.f k t718 t720 t722 ([] : List ByteArray)).bind fun t728 => (if t728.toList = a0.toList then (if a0.toList = ([] : List UInt8) then (some (0, 0, 0, ([] : List ByteArray), false)) else (some (t718, t720, t722, ([] : List ByteArray), true))) else (some (0, 0, 0, ([] : List ByteArray), false)))) = some (r1, r2, r3, r4, r5) := by rw [if_neg (show ¬ (false = true) by decide)] at H; exact H
      clear H
      have H := H1
      clear H1
      replace H := Option.bind_eq_some_iff.mp H
      obtain ⟨t728, A740, H⟩ := H
      replace H : (if t728.toList = a0.toList then (if a0.toList = ([] : List UInt8) then (some (0, 0, 0, ([] : List ByteArray), false)) else (some (t718, t720, t722, ([] : List ByteArray), true))) else (some (0, 0, 0, ([] : List ByteArray), false))) = some (r1, r2, r3, r4, r5) := H
      have A74 := Aside0.mk A740
      clear A740
      by_cases c75 : t728.toList = a0.toList
      ·rw [if_pos c75] at H
       have c75b0 : (t728.toList == a0.toList) = true := beq_iff_eq.mpr c75
       have c75b1 : (t728.toList != a0.toList) = false := bne_eq_false_iff_eq.mpr c75
       clear c75
       by_cases c76 : a0.toList = ([] : List UInt8)
       ·rw [if_pos c76] at H
        have c76b0 : (a0.toList == ([] : List UInt8)) = true := beq_iff_eq.mpr c76
        have c76b1 : (a0.toList != ([] : List UInt8)) = false := bne_eq_false_iff_eq.mpr c76
        clear c76
        simp only [Option.some.injEq, Prod.mk.injEq] at H
        obtain ⟨rfl, rfl, rfl, rfl, rfl⟩ := H
        have hnb90 := NB723_710.out
        have hnc90 := NB710_723.out
        have hcz91_0 : w24.cell? ⟨gb723, 0, none⟩ = some (.int .i64 0) := (blk_cell BK723.out 0).trans rfl
        have hcz91_1 : w24.cell? ⟨gb723, 1, none⟩ = some (.int .i64 0) := (blk_cell BK723.out 1).trans rfl
        have hcz91_2 : w24.cell? ⟨gb723, 2, none⟩ = some (.int .i64 0) := (blk_cell BK723.out 2).trans rfl
        have hcz91_3 : w24.cell? ⟨gb723, 3, none⟩ = some (.slice none 0 0) := (blk_cell BK723.out 3).trans rfl
        have hfz91_0 := blk_frozen BK723.out 0
        have hfz91_1 := blk_frozen BK723.out 1
        have hfz91_2 := blk_frozen BK723.out 2
        have hfz91_3 := blk_frozen BK723.out 3
        try go_wp2_with (first | ((with_reducible refine gate_callee (f := 48) rfl ?_); refine goesL_ (some 39) rfl rfl Tryd.func48 (by kernel_rfl) rfl #[.agg #[.int .i64 t718, .int .i64 t720, .int .i64 t722, .slice none 0 0]] rfl zb1 ?_; (refine (impl_VersionText.calls k t718 t720 t722 _ _ ([] : List ByteArray) t728 _ ?side1 ?side2 ?side3 ?side4 A74.out).mono ?_); (case side1 => exact Kd.C_nil _ _); (case side2 => exact Nat.le_refl _); (case side3 => exact Glob.below HGE.out zb2); (case side4 => exact Glob.below HGT.out zb2); rintro e w92 ⟨rfl, hb⟩; refine ⟨_, rfl, ?_⟩; have n0_ := Aside0.mk (Kd.R_below (by (with_reducible repeat (first | apply Kd.R_alloc | apply Kd.R_drewN | apply Kd.R_drew)); exact (Kd.R_mono (Kd.R_far (p := ⟨gb723, 3, none⟩) (Kd.R_far (p := ⟨gb723, 2, none⟩) (Kd.R_far (p := ⟨gb723, 1, none⟩) (Kd.R_far (p := ⟨gb723, 0, none⟩) (Kd.R_types HO716.out BK723.out (by decide)) (fun _ hk => hk.2) (.int .i64 t718)) (fun _ hk => hk.2) (.int .i64 t720)) (fun _ hk => hk.2) (.int .i64 t722)) (fun _ hk => hk.2) (.slice none 0 0)) (fun _ h_ => h_.1))) hb); have n1_ := Aside0.mk (blk_below (g := gb710) (o := .cells #[.int .i64 0, .int .i64 0, .int .i64 0, .slice none 0 0] 37 (0, 0)) (by (with_reducible repeat (first | refine bN_ ?_ _ | refine bD_ ?_ | refine bA_ ?_ _)); refine blk_far ?_ NB710_723.out _; (with_reducible repeat (first | refine bN_ ?_ _ | refine bD_ ?_ | refine bA_ ?_ _)); refine blk_far ?_ NB710_723.out _; (with_reducible repeat (first | refine bN_ ?_ _ | refine bD_ ?_ | refine bA_ ?_ _)); refine blk_far ?_ NB710_723.out _; (with_reducible repeat (first | refine bN_ ?_ _ | refine bD_ ?_ | refine bA_ ?_ _)); refine blk_far ?_ NB710_723.out _; (with_reducible repeat (first | refine bN_ ?_ _ | refine bD_ ?_ | refine bA_ ?_ _)); exact BK710.out) hb); have n2_ := Aside0.mk (blk_below (g := gb723) (o := .cells #[.int .i64 t718, .int .i64 t720, .int .i64 t722, .slice none 0 0] 37 (0, 0)) (by (with_reducible repeat (first | refine bN_ ?_ _ | refine bD_ ?_ | refine bA_ ?_ _)); refine blk_put (cs := #[.int .i64 t718, .int .i64 t720, .int .i64 t722, .slice none 0 0]) ?_ 3 _ rfl; (with_reducible repeat (first | refine bN_ ?_ _ | refine bD_ ?_ | refine bA_ ?_ _)); refine blk_put (cs := #[.int .i64 t718, .int .i64 t720, .int .i64 0, .slice none 0 0]) ?_ 2 _ rfl; (with_reducible repeat (first | refine bN_ ?_ _ | refine bD_ ?_ | refine bA_ ?_ _)); refine blk_put (cs := #[.int .i64 t718, .int .i64 0, .int .i64 0, .slice none 0 0]) ?_ 1 _ rfl; (with_reducible repeat (first | refine bN_ ?_ _ | refine bD_ ?_ | refine bA_ ?_ _)); refine blk_put (cs := #[.int .i64 0, .int .i64 0, .int .i64 0, .slice none 0 0]) ?_ 0 _ rfl; (with_reducible repeat (first | refine bN_ ?_ _ | refine bD_ ?_ | refine bA_ ?_ _)); exact BK723.out) hb); have n3_ := Aside0.mk (below_step zb2 hb); clear HO716; clear BK710; clear BK723; clear HB; have HO716 := n0_; have BK710 := n1_; have BK723 := n2_; have HB := n3_; clear n0_ n1_ n2_ n3_; (try clear hb); (try clear hb2); (try clear hk); (try clear hi); have hcz93_0 : w92.cell? ⟨gb710, 0, none⟩ = some (.int .i64 0) := (blk_cell BK710.out 0).trans rfl; have hcz93_1 : w92.cell? ⟨gb710, 1, none⟩ = some (.int .i64 0) := (blk_cell BK710.out 1).trans rfl; have hcz93_2 : w92.cell? ⟨gb710, 2, none⟩ = some (.int .i64 0) := (blk_cell BK710.out 2).trans rfl; have hcz93_3 : w92.cell? ⟨gb710, 3, none⟩ = some (.slice none 0 0) := (blk_cell BK710.out 3).trans rfl; have hfz93_0 := blk_frozen BK710.out 0; have hfz93_1 := blk_frozen BK710.out 1; have hfz93_2 := blk_frozen BK710.out 2; have hfz93_3 := blk_frozen BK710.out 3))
        refine bodyPost_ret (results_ct rfl _ _ gb710 37 #[.int .i64 0, .int .i64 0, .int .i64 0, .slice none 0 0] (0, 0) _ rfl (by (with_reducible repeat (first | refine bN_ ?_ _ | refine bD_ ?_ | refine bA_ ?_ _)); refine blk_put (cs := #[.int .i64 0, .int .i64 0, .int .i64 0, .slice none 0 0]) ?_ 3 _ rfl; (with_reducible repeat (first | refine bN_ ?_ _ | refine bD_ ?_ | refine bA_ ?_ _)); refine blk_put (cs := #[.int .i64 0, .int .i64 0, .int .i64 0, .slice none 0 0]) ?_ 2 _ rfl; (with_reducible repeat (first | refine bN_ ?_ _ | refine bD_ ?_ | refine bA_ ?_ _)); refine blk_put (cs := #[.int .i64 0, .int .i64 0, .int .i64 0, .slice none 0 0]) ?_ 1 _ rfl; (with_reducible repeat (first | refine bN_ ?_ _ | refine bD_ ?_ | refine bA_ ?_ _)); refine blk_put (cs := #[.int .i64 0, .int .i64 0, .int .i64 0, .slice none 0 0]) ?_ 0 _ rfl; (with_reducible repeat (first | refine bN_ ?_ _ | refine bD_ ?_ | refine bA_ ?_ _)); exact BK710.out) Tryd.underlying37 rfl (by kernel_rfl)) rfl ?_
        exact ⟨_, zb3, by first | exact Kd.R_nil _ _ _ _ _ | exact Kd.N_nil _ _ _ _ _ | exact Kd.V_nil _ _ _ _ _ | exact Kd.Q_nil _ _ _ _ _ | exact Kd.S_nil _ _ _ _ _, by repeat (first | (with_reducible first | exact HB.out | apply below_alloc | apply pw_below_drewN | apply below_drew1 | refine below_set ?_ GE710.out | refine below_set ?_ GE723.out) | exact HB.out)⟩
       ·rw [if_neg c76] at H
        have c76b0 : (a0.toList == ([] : List UInt8)) = false := beq_eq_false_iff_ne.mpr c76
        have c76b1 : (a0.toList != ([] : List UInt8)) = true := bne_iff_ne.mpr c76
        simp only [Option.some.injEq, Prod.mk.injEq] at H
        obtain ⟨rfl, rfl, rfl, rfl, rfl⟩ := H
        have hnb107 := NB723_710.out
        have hnc107 := NB710_723.out
        have hcz108_0 : w24.cell? ⟨gb723, 0, none⟩ = some (.int .i64 0) := (blk_cell BK723.out 0).trans rfl
        have hcz108_1 : w24.cell? ⟨gb723, 1, none⟩ = some (.int .i64 0) := (blk_cell BK723.out 1).trans rfl
        have hcz108_2 : w24.cell? ⟨gb723, 2, none⟩ = some (.int .i64 0) := (blk_cell BK723.out 2).trans rfl
        have hcz108_3 : w24.cell? ⟨gb723, 3, none⟩ = some (.slice none 0 0) := (blk_cell BK723.out 3).trans rfl
        have hfz108_0 := blk_frozen BK723.out 0
        have hfz108_1 := blk_frozen BK723.out 1
        have hfz108_2 := blk_frozen BK723.out 2
        have hfz108_3 := blk_frozen BK723.out 3
        try go_wp2_with (first | ((with_reducible refine gate_callee (f := 48) rfl ?_); refine goesL_ (some 39) rfl rfl Tryd.func48 (by kernel_rfl) rfl #[.agg #[.int .i64 t718, .int .i64 t720, .int .i64 t722, .slice none 0 0]] rfl zb1 ?_; (refine (impl_VersionText.calls k t718 t720 t722 _ _ ([] : List ByteArray) t728 _ ?side1 ?side2 ?side3 ?side4 A74.out).mono ?_); (case side1 => exact Kd.C_nil _ _); (case side2 => exact Nat.le_refl _); (case side3 => exact Glob.below HGE.out zb2); (case side4 => exact Glob.below HGT.out zb2); rintro e w109 ⟨rfl, hb⟩; refine ⟨_, rfl, ?_⟩; have n0_ := Aside0.mk (Kd.R_below (by (with_reducible repeat (first | apply Kd.R_alloc | apply Kd.R_drewN | apply Kd.R_drew)); exact (Kd.R_mono (Kd.R_far (p := ⟨gb723, 3, none⟩) (Kd.R_far (p := ⟨gb723, 2, none⟩) (Kd.R_far (p := ⟨gb723, 1, none⟩) (Kd.R_far (p := ⟨gb723, 0, none⟩) (Kd.R_types HO716.out BK723.out (by decide)) (fun _ hk => hk.2) (.int .i64 t718)) (fun _ hk => hk.2) (.int .i64 t720)) (fun _ hk => hk.2) (.int .i64 t722)) (fun _ hk => hk.2) (.slice none 0 0)) (fun _ h_ => h_.1))) hb); have n1_ := Aside0.mk (blk_below (g := gb710) (o := .cells #[.int .i64 0, .int .i64 0, .int .i64 0, .slice none 0 0] 37 (0, 0)) (by (with_reducible repeat (first | refine bN_ ?_ _ | refine bD_ ?_ | refine bA_ ?_ _)); refine blk_far ?_ NB710_723.out _; (with_reducible repeat (first | refine bN_ ?_ _ | refine bD_ ?_ | refine bA_ ?_ _)); refine blk_far ?_ NB710_723.out _; (with_reducible repeat (first | refine bN_ ?_ _ | refine bD_ ?_ | refine bA_ ?_ _)); refine blk_far ?_ NB710_723.out _; (with_reducible repeat (first | refine bN_ ?_ _ | refine bD_ ?_ | refine bA_ ?_ _)); refine blk_far ?_ NB710_723.out _; (with_reducible repeat (first | refine bN_ ?_ _ | refine bD_ ?_ | refine bA_ ?_ _)); exact BK710.out) hb); have n2_ := Aside0.mk (blk_below (g := gb723) (o := .cells #[.int .i64 t718, .int .i64 t720, .int .i64 t722, .slice none 0 0] 37 (0, 0)) (by (with_reducible repeat (first | refine bN_ ?_ _ | refine bD_ ?_ | refine bA_ ?_ _)); refine blk_put (cs := #[.int .i64 t718, .int .i64 t720, .int .i64 t722, .slice none 0 0]) ?_ 3 _ rfl; (with_reducible repeat (first | refine bN_ ?_ _ | refine bD_ ?_ | refine bA_ ?_ _)); refine blk_put (cs := #[.int .i64 t718, .int .i64 t720, .int .i64 0, .slice none 0 0]) ?_ 2 _ rfl; (with_reducible repeat (first | refine bN_ ?_ _ | refine bD_ ?_ | refine bA_ ?_ _)); refine blk_put (cs := #[.int .i64 t718, .int .i64 0, .int .i64 0, .slice none 0 0]) ?_ 1 _ rfl; (with_reducible repeat (first | refine bN_ ?_ _ | refine bD_ ?_ | refine bA_ ?_ _)); refine blk_put (cs := #[.int .i64 0, .int .i64 0, .int .i64 0, .slice none 0 0]) ?_ 0 _ rfl; (with_reducible repeat (first | refine bN_ ?_ _ | refine bD_ ?_ | refine bA_ ?_ _)); exact BK723.out) hb); have n3_ := Aside0.mk (below_step zb2 hb); clear HO716; clear BK710; clear BK723; clear HB; have HO716 := n0_; have BK710 := n1_; have BK723 := n2_; have HB := n3_; clear n0_ n1_ n2_ n3_; (try clear hb); (try clear hb2); (try clear hk); (try clear hi); have hcz110_0 : w109.cell? ⟨gb723, 0, none⟩ = some (.int .i64 t718) := (blk_cell BK723.out 0).trans rfl; have hcz110_1 : w109.cell? ⟨gb723, 1, none⟩ = some (.int .i64 t720) := (blk_cell BK723.out 1).trans rfl; have hcz110_2 : w109.cell? ⟨gb723, 2, none⟩ = some (.int .i64 t722) := (blk_cell BK723.out 2).trans rfl; have hcz110_3 : w109.cell? ⟨gb723, 3, none⟩ = some (.slice none 0 0) := (blk_cell BK723.out 3).trans rfl; have hfz110_0 := blk_frozen BK723.out 0; have hfz110_1 := blk_frozen BK723.out 1; have hfz110_2 := blk_frozen BK723.out 2; have hfz110_3 := blk_frozen BK723.out 3; have hcz111_0 : w109.cell? ⟨gb710, 0, none⟩ = some (.int .i64 0) := (blk_cell BK710.out 0).trans rfl; have hcz111_1 : w109.cell? ⟨gb710, 1, none⟩ = some (.int .i64 0) := (blk_cell BK710.out 1).trans rfl; have hcz111_2 : w109.cell? ⟨gb710, 2, none⟩ = some (.int .i64 0) := (blk_cell BK710.out 2).trans rfl; have hcz111_3 : w109.cell? ⟨gb710, 3, none⟩ = some (.slice none 0 0) := (blk_cell BK710.out 3).trans rfl; have hfz111_0 := blk_frozen BK710.out 0; have hfz111_1 := blk_frozen BK710.out 1; have hfz111_2 := blk_frozen BK710.out 2; have hfz111_3 := blk_frozen BK710.out 3))
        refine bodyPost_ret (results_ct rfl _ _ gb710 37 #[.int .i64 t718, .int .i64 t720, .int .i64 t722, .slice none 0 0] (0, 0) _ rfl (by (with_reducible repeat (first | refine bN_ ?_ _ | refine bD_ ?_ | refine bA_ ?_ _)); refine blk_put (cs := #[.int .i64 t718, .int .i64 t720, .int .i64 t722, .slice none 0 0]) ?_ 3 _ rfl; (with_reducible repeat (first | refine bN_ ?_ _ | refine bD_ ?_ | refine bA_ ?_ _)); refine blk_put (cs := #[.int .i64 t718, .int .i64 t720, .int .i64 0, .slice none 0 0]) ?_ 2 _ rfl; (with_reducible repeat (first | refine bN_ ?_ _ | refine bD_ ?_ | refine bA_ ?_ _)); refine blk_put (cs := #[.int .i64 t718, .int .i64 0, .int .i64 0, .slice none 0 0]) ?_ 1 _ rfl; (with_reducible repeat (first | refine bN_ ?_ _ | refine bD_ ?_ | refine bA_ ?_ _)); refine blk_put (cs := #[.int .i64 0, .int .i64 0, .int .i64 0, .slice none 0 0]) ?_ 0 _ rfl; (with_reducible repeat (first | refine bN_ ?_ _ | refine bD_ ?_ | refine bA_ ?_ _)); exact BK710.out) Tryd.underlying37 rfl (by kernel_rfl)) rfl ?_
        exact ⟨_, zb3, by first | exact Kd.R_nil _ _ _ _ _ | exact Kd.N_nil _ _ _ _ _ | exact Kd.V_nil _ _ _ _ _ | exact Kd.Q_nil _ _ _ _ _ | exact Kd.S_nil _ _ _ _ _, by repeat (first | (with_reducible first | exact HB.out | apply below_alloc | apply pw_below_drewN | apply below_drew1 | refine below_set ?_ GE710.out | refine below_set ?_ GE723.out) | exact HB.out)⟩
      ·rw [if_neg c75] at H
       have c75b0 : (t728.toList == a0.toList) = false := beq_eq_false_iff_ne.mpr c75
       have c75b1 : (t728.toList != a0.toList) = true := bne_iff_ne.mpr c75
       simp only [Option.some.injEq, Prod.mk.injEq] at H
       obtain ⟨rfl, rfl, rfl, rfl, rfl⟩ := H
       have hnb125 := NB723_710.out
       have hnc125 := NB710_723.out
       have hcz126_0 : w24.cell? ⟨gb723, 0, none⟩ = some (.int .i64 0) := (blk_cell BK723.out 0).trans rfl
       have hcz126_1 : w24.cell? ⟨gb723, 1, none⟩ = some (.int .i64 0) := (blk_cell BK723.out 1).trans rfl
       have hcz126_2 : w24.cell? ⟨gb723, 2, none⟩ = some (.int .i64 0) := (blk_cell BK723.out 2).trans rfl
       have hcz126_3 : w24.cell? ⟨gb723, 3, none⟩ = some (.slice none 0 0) := (blk_cell BK723.out 3).trans rfl
       have hfz126_0 := blk_frozen BK723.out 0
       have hfz126_1 := blk_frozen BK723.out 1
       have hfz126_2 := blk_frozen BK723.out 2
       have hfz126_3 := blk_frozen BK723.out 3
       try go_wp2_with (first | ((with_reducible refine gate_callee (f := 48) rfl ?_); refine goesL_ (some 39) rfl rfl Tryd.func48 (by kernel_rfl) rfl #[.agg #[.int .i64 t718, .int .i64 t720, .int .i64 t722, .slice none 0 0]] rfl zb1 ?_; (refine (impl_VersionText.calls k t718 t720 t722 _ _ ([] : List ByteArray) t728 _ ?side1 ?side2 ?side3 ?side4 A74.out).mono ?_); (case side1 => exact Kd.C_nil _ _); (case side2 => exact Nat.le_refl _); (case side3 => exact Glob.below HGE.out zb2); (case side4 => exact Glob.below HGT.out zb2); rintro e w127 ⟨rfl, hb⟩; refine ⟨_, rfl, ?_⟩; have n0_ := Aside0.mk (Kd.R_below (by (with_reducible repeat (first | apply Kd.R_alloc | apply Kd.R_drewN | apply Kd.R_drew)); exact (Kd.R_mono (Kd.R_far (p := ⟨gb723, 3, none⟩) (Kd.R_far (p := ⟨gb723, 2, none⟩) (Kd.R_far (p := ⟨gb723, 1, none⟩) (Kd.R_far (p := ⟨gb723, 0, none⟩) (Kd.R_types HO716.out BK723.out (by decide)) (fun _ hk => hk.2) (.int .i64 t718)) (fun _ hk => hk.2) (.int .i64 t720)) (fun _ hk => hk.2) (.int .i64 t722)) (fun _ hk => hk.2) (.slice none 0 0)) (fun _ h_ => h_.1))) hb); have n1_ := Aside0.mk (blk_below (g := gb710) (o := .cells #[.int .i64 0, .int .i64 0, .int .i64 0, .slice none 0 0] 37 (0, 0)) (by (with_reducible repeat (first | refine bN_ ?_ _ | refine bD_ ?_ | refine bA_ ?_ _)); refine blk_far ?_ NB710_723.out _; (with_reducible repeat (first | refine bN_ ?_ _ | refine bD_ ?_ | refine bA_ ?_ _)); refine blk_far ?_ NB710_723.out _; (with_reducible repeat (first | refine bN_ ?_ _ | refine bD_ ?_ | refine bA_ ?_ _)); refine blk_far ?_ NB710_723.out _; (with_reducible repeat (first | refine bN_ ?_ _ | refine bD_ ?_ | refine bA_ ?_ _)); refine blk_far ?_ NB710_723.out _; (with_reducible repeat (first | refine bN_ ?_ _ | refine bD_ ?_ | refine bA_ ?_ _)); exact BK710.out) hb); have n2_ := Aside0.mk (blk_below (g := gb723) (o := .cells #[.int .i64 t718, .int .i64 t720, .int .i64 t722, .slice none 0 0] 37 (0, 0)) (by (with_reducible repeat (first | refine bN_ ?_ _ | refine bD_ ?_ | refine bA_ ?_ _)); refine blk_put (cs := #[.int .i64 t718, .int .i64 t720, .int .i64 t722, .slice none 0 0]) ?_ 3 _ rfl; (with_reducible repeat (first | refine bN_ ?_ _ | refine bD_ ?_ | refine bA_ ?_ _)); refine blk_put (cs := #[.int .i64 t718, .int .i64 t720, .int .i64 0, .slice none 0 0]) ?_ 2 _ rfl; (with_reducible repeat (first | refine bN_ ?_ _ | refine bD_ ?_ | refine bA_ ?_ _)); refine blk_put (cs := #[.int .i64 t718, .int .i64 0, .int .i64 0, .slice none 0 0]) ?_ 1 _ rfl; (with_reducible repeat (first | refine bN_ ?_ _ | refine bD_ ?_ | refine bA_ ?_ _)); refine blk_put (cs := #[.int .i64 0, .int .i64 0, .int .i64 0, .slice none 0 0]) ?_ 0 _ rfl; (with_reducible repeat (first | refine bN_ ?_ _ | refine bD_ ?_ | refine bA_ ?_ _)); exact BK723.out) hb); have n3_ := Aside0.mk (below_step zb2 hb); clear HO716; clear BK710; clear BK723; clear HB; have HO716 := n0_; have BK710 := n1_; have BK723 := n2_; have HB := n3_; clear n0_ n1_ n2_ n3_; (try clear hb); (try clear hb2); (try clear hk); (try clear hi); have hcz128_0 : w127.cell? ⟨gb710, 0, none⟩ = some (.int .i64 0) := (blk_cell BK710.out 0).trans rfl; have hcz128_1 : w127.cell? ⟨gb710, 1, none⟩ = some (.int .i64 0) := (blk_cell BK710.out 1).trans rfl; have hcz128_2 : w127.cell? ⟨gb710, 2, none⟩ = some (.int .i64 0) := (blk_cell BK710.out 2).trans rfl; have hcz128_3 : w127.cell? ⟨gb710, 3, none⟩ = some (.slice none 0 0) := (blk_cell BK710.out 3).trans rfl; have hfz128_0 := blk_frozen BK710.out 0; have hfz128_1 := blk_frozen BK710.out 1; have hfz128_2 := blk_frozen BK710.out 2; have hfz128_3 := blk_frozen BK710.out 3))
       refine bodyPost_ret (results_ct rfl _ _ gb710 37 #[.int .i64 0, .int .i64 0, .int .i64 0, .slice none 0 0] (0, 0) _ rfl (by (with_reducible repeat (first | refine bN_ ?_ _ | refine bD_ ?_ | refine bA_ ?_ _)); refine blk_put (cs := #[.int .i64 0, .int .i64 0, .int .i64 0, .slice none 0 0]) ?_ 3 _ rfl; (with_reducible repeat (first | refine bN_ ?_ _ | refine bD_ ?_ | refine bA_ ?_ _)); refine blk_put (cs := #[.int .i64 0, .int .i64 0, .int .i64 0, .slice none 0 0]) ?_ 2 _ rfl; (with_reducible repeat (first | refine bN_ ?_ _ | refine bD_ ?_ | refine bA_ ?_ _)); refine blk_put (cs := #[.int .i64 0, .int .i64 0, .int .i64 0, .slice none 0 0]) ?_ 1 _ rfl; (with_reducible repeat (first | refine bN_ ?_ _ | refine bD_ ?_ | refine bA_ ?_ _)); refine blk_put (cs := #[.int .i64 0, .int .i64 0, .int .i64 0, .slice none 0 0]) ?_ 0 _ rfl; (with_reducible repeat (first | refine bN_ ?_ _ | refine bD_ ?_ | refine bA_ ?_ _)); exact BK710.out) Tryd.underlying37 rfl (by kernel_rfl)) rfl ?_
       exact ⟨_, zb3, by first | exact Kd.R_nil _ _ _ _ _ | exact Kd.N_nil _ _ _ _ _ | exact Kd.V_nil _ _ _ _ _ | exact Kd.Q_nil _ _ _ _ _ | exact Kd.S_nil _ _ _ _ _, by repeat (first | (with_reducible first | exact HB.out | apply below_alloc | apply pw_below_drewN | apply below_drew1 | refine below_set ?_ GE710.out | refine below_set ?_ GE723.out) | exact HB.out)⟩
    ·rw [if_neg c9] at H
     exact absurd H (by simp)
   ·rw [if_neg c7] at H
    exact absurd H (by simp)
  ·rw [if_neg c5] at H
   exact absurd H (by simp)
 ·rw [if_neg c4] at H
  have c4b0 : ((t714.length : Int) == 3) = false := beq_eq_false_iff_ne.mpr c4
  have c4b1 : ((t714.length : Int) != 3) = true := bne_iff_ne.mpr c4
  simp only [Option.some.injEq, Prod.mk.injEq] at H
  obtain ⟨rfl, rfl, rfl, rfl, rfl⟩ := H
  go_enter Tryd.func63, Tryd.ntmps63
  go_wp2_with (first | ((with_reducible refine gate_dst (N := 2) rfl ?_); refine box_event ?hg (N := 2) ?hd (cs := #[.int .i64 0, .int .i64 0, .int .i64 0, .slice none 0 0]) (t := 37) ?hr ?_; (case hd => rfl); (case hg => rfl); (case hr => first | (go_simp; done) | (go_simp; rfl)); intro gb710 hg w129 hbox hb; have n0_ := Aside0.mk (below_step zb0 hb); have n1_ := Aside0.mk (hbox); have n2_ := Aside0.mk ((by rw [hg]; exact (below_size zb0) : w.heap.size ≤ gb710)); have n3_ := Aside0.mk ((by rw [hg]; exact (below_size zb0) : w.heap.size ≤ gb710)); clear HB; have HB := n0_; have BK710 := n1_; have GW710 := n2_; have GE710 := n3_; clear n0_ n1_ n2_ n3_; clear hb hbox hg) | ((with_reducible refine gate_callee (f := 106) rfl ?_); refine goesL_ (some 11) rfl rfl Tryd.func106 (by kernel_rfl) rfl #[.string a0, .string (⟨#[45]⟩ : ByteArray)] rfl zb1 ?_; (with_reducible refine (strings_Cut.calls a0 (⟨#[45]⟩ : ByteArray) t711 t712 t713 _ ?side1 A2.out).mono ?_); (case side1 => exact Glob.below HGM.out zb6); rintro e w' ⟨rfl, ⟨nd, rfl⟩⟩; refine ⟨_, rfl, ?_⟩; (try (rw [drewN_self w129]; generalize hq_ : World.drewN w129 _ = w129; have n0_ : Aside0 (w129.heap[gb710]? = some (.cells #[.int .i64 0, .int .i64 0, .int .i64 0, .slice none 0 0] 37 (0, 0))) := ⟨by rw [← hq_]; exact (by (with_reducible repeat (first | refine bN_ ?_ _ | refine bD_ ?_ | refine bA_ ?_ _)); exact BK710.out)⟩; have n1_ : Aside0 (Below w.heap.size w w129) := ⟨by rw [← hq_]; exact zb6⟩; clear BK710 HB hq_; have BK710 := n0_; have HB := n1_; clear n0_ n1_))) | ((with_reducible refine gate_callee (f := 78) rfl ?_); refine goesL_ (some 16) rfl rfl Tryd.func78 (by kernel_rfl) rfl #[.string t711, .string (⟨#[46]⟩ : ByteArray)] rfl zb1 ?_; (with_reducible refine (strings_Split.calls t711 (⟨#[46]⟩ : ByteArray) t714 _ ?side1 A3.out).mono ?_); (case side1 => exact Glob.below HGM.out zb6); rintro e w130 ⟨v715, rfl, ho0, hb⟩; refine ⟨_, rfl, ?_⟩; have n0_ := Aside0.mk (Kd.R_lower ho0 (below_size zb6)); have n1_ := Aside0.mk (blk_below (g := gb710) (o := .cells #[.int .i64 0, .int .i64 0, .int .i64 0, .slice none 0 0] 37 (0, 0)) (by (with_reducible repeat (first | refine bN_ ?_ _ | refine bD_ ?_ | refine bA_ ?_ _)); exact BK710.out) hb); have n2_ := Aside0.mk (below_step zb6 hb); clear BK710; clear HB; have HO716 := n0_; have BK710 := n1_; have HB := n2_; clear n0_ n1_ n2_; (try clear hb); (try clear hb2); (try clear hk); (try clear hi); (try clear ho0); obtain ⟨Ao131, co131, eo131⟩ := Kd.R_slice HO716.out; subst eo131; have hcz132_0 : w130.cell? ⟨gb710, 0, none⟩ = some (.int .i64 0) := (blk_cell BK710.out 0).trans rfl; have hcz132_1 : w130.cell? ⟨gb710, 1, none⟩ = some (.int .i64 0) := (blk_cell BK710.out 1).trans rfl; have hcz132_2 : w130.cell? ⟨gb710, 2, none⟩ = some (.int .i64 0) := (blk_cell BK710.out 2).trans rfl; have hcz132_3 : w130.cell? ⟨gb710, 3, none⟩ = some (.slice none 0 0) := (blk_cell BK710.out 3).trans rfl; have hfz132_0 := blk_frozen BK710.out 0; have hfz132_1 := blk_frozen BK710.out 1; have hfz132_2 := blk_frozen BK710.out 2; have hfz132_3 := blk_frozen BK710.out 3))
  refine bodyPost_ret (results_ct rfl _ _ gb710 37 #[.int .i64 0, .int .i64 0, .int .i64 0, .slice none 0 0] (0, 0) _ rfl (by (with_reducible repeat (first | refine bN_ ?_ _ | refine bD_ ?_ | refine bA_ ?_ _)); refine blk_put (cs := #[.int .i64 0, .int .i64 0, .int .i64 0, .slice none 0 0]) ?_ 3 _ rfl; (with_reducible repeat (first | refine bN_ ?_ _ | refine bD_ ?_ | refine bA_ ?_ _)); refine blk_put (cs := #[.int .i64 0, .int .i64 0, .int .i64 0, .slice none 0 0]) ?_ 2 _ rfl; (with_reducible repeat (first | refine bN_ ?_ _ | refine bD_ ?_ | refine bA_ ?_ _)); refine blk_put (cs := #[.int .i64 0, .int .i64 0, .int .i64 0, .slice none 0 0]) ?_ 1 _ rfl; (with_reducible repeat (first | refine bN_ ?_ _ | refine bD_ ?_ | refine bA_ ?_ _)); refine blk_put (cs := #[.int .i64 0, .int .i64 0, .int .i64 0, .slice none 0 0]) ?_ 0 _ rfl; (with_reducible repeat (first | refine bN_ ?_ _ | refine bD_ ?_ | refine bA_ ?_ _)); exact BK710.out) Tryd.underlying37 rfl (by kernel_rfl)) rfl ?_
  exact ⟨_, zb3, by first | exact Kd.R_nil _ _ _ _ _ | exact Kd.N_nil _ _ _ _ _ | exact Kd.V_nil _ _ _ _ _ | exact Kd.Q_nil _ _ _ _ _ | exact Kd.S_nil _ _ _ _ _, by repeat (first | (with_reducible first | exact HB.out | apply below_alloc | apply pw_below_drewN | apply below_drew1 | refine below_set ?_ GE710.out) | exact HB.out)⟩

end Go.Proofs.YtgfaphlpkjikkaaDoor.G
