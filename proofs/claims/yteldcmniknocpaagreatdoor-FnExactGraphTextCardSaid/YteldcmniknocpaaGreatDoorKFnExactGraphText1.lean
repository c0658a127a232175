/- A part of the proof that the law FnExactGraphText answers true at every input that its row speaks of. Conditions: the row's own. -/
import Derived.Test.YteldcmniknocpaaGreatDoorKFnExactGraphText0
import Derived.Lib.AppendIntMem
import Derived.Test.YteldcmniknocpaaGreatDoorShelf
import Derived.Lib.SmallJoins
section
namespace Go.Proofs.YteldcmniknocpaaGreatDoor.G
open Go.RowKit Go.Proofs.YteldcmniknocpaaGreatDoorW.PrintWords Go.Proofs.YteldcmniknocpaaGreatDoorW.PrintLast Go.Proofs.YteldcmniknocpaaGreatDoorW.PrintMore
attribute [local go_sem] max2_int min2_int max_two min_two max_three min_three max_four min_four
attribute [local go_sem high] Go.Proofs.YteldcmniknocpaaGreatDoor.G.str_gtr Go.Proofs.YteldcmniknocpaaGreatDoor.G.str_leq Go.Proofs.YteldcmniknocpaaGreatDoor.G.str_geq
set_option linter.unusedVariables false
set_option linter.unusedSimpArgs false
def impl_within.f (a0 : Int) (a1 : Int) (a2 : Int) : Option (Bool) := if a1 ≤ a0 then (some (decide (a0 ≤ a2))) else (some false)
set_option maxHeartbeats 8000000 in
set_option maxRecDepth 100000 in
theorem impl_within.calls (a0 : Int) (a1 : Int) (a2 : Int) (r : Bool) (w : World) (h : impl_within.f a0 a1 a2 = some r) :
  Calls Tryz.prog 95 #[.int .i64 a0, .int .i64 a1, .int .i64 a2] w fun e w' => e = .returned (.bool r) ∧ Drawn0 w w' := by
 have H : (if a1 ≤ a0 then (some (decide (a0 ≤ a2))) else (some false)) = some r := h
 clear h
 by_cases c4 : a1 ≤ a0
 ·rw [if_pos c4] at H
  have c4b0 : decide (a1 ≤ a0) = true := decide_eq_true c4
  clear c4
  obtain rfl := Option.some.inj H
  go_enter Tryz.func95, Tryz.ntmps95
  go_wp2
  go_ret
  exact ⟨by first | rfl | (simp; done) | (simp [*]; done) | (simp; exact isEmpty_ne _), by repeat (first | exact Drawn0.refl _ | apply Drawn0.step)⟩
 ·rw [if_neg c4] at H
  have c4b0 : decide (a1 ≤ a0) = false := decide_eq_false c4
  clear c4
  obtain rfl := Option.some.inj H
  go_enter Tryz.func95, Tryz.ntmps95
  go_wp2
  go_ret
  exact ⟨by first | rfl | (simp; done) | (simp [*]; done) | (simp; exact isEmpty_ne _), by repeat (first | exact Drawn0.refl _ | apply Drawn0.step)⟩
def strconv_Itoa.f (a0 : Int) : Option ByteArray := if -9223372036854775808 ≤ a0 ∧ a0 ≤ 9223372036854775807 then some ⟨(Lib.itoa a0).toArray⟩ else none
theorem strconv_Itoa.calls (a0 : Int) (r : ByteArray) (w : World) (hGT : Glob FactT w) (h : strconv_Itoa.f a0 = some r) :
  Calls Tryz.prog 129 #[.int .i64 a0] w fun e w' => e = .returned (.string r) ∧ Below w.heap.size w w' := by
 unfold strconv_Itoa.f at h
 by_cases hc : -9223372036854775808 ≤ a0 ∧ a0 ≤ 9223372036854775807
 ·rw [if_pos hc] at h
  obtain rfl := Option.some.inj h
  refine (Tryz.strconv_Itoa a0 hc.1 hc.2 w (FactT.here hGT)).mono fun e w' ⟨h1, k, os, h2⟩ => ⟨h1, ?_⟩
  rw [h2]; exact Lib.below_grow _ w (Nat.le_refl _) k os
 ·rw [if_neg hc] at h; cases h
def impl_DecText.f (a0 : Int) : Option (ByteArray) := (strconv_Itoa.f a0).bind fun t336 => (some t336)
set_option maxHeartbeats 8000000 in
set_option maxRecDepth 100000 in
theorem impl_DecText.calls (a0 : Int) (r : ByteArray) (w : World) (hGT : Glob FactT w) (h : impl_DecText.f a0 = some r) :
  Calls Tryz.prog 96 #[.int .i64 a0] w fun e w' => e = .returned (.string r) ∧ Below w.heap.size w w' := by
 have HB := Aside0.mk (Below.refl w.heap.size w)
 have HGT := Aside0.mk hGT
 clear hGT
 have H : ((strconv_Itoa.f a0).bind fun t336 => (some t336)) = some r := h
 clear h
 replace H := Option.bind_eq_some_iff.mp H
 obtain ⟨t336, A20, H⟩ := H
 replace H : (some t336) = some r := H
 have A2 := Aside0.mk A20
 clear A20
 obtain rfl := Option.some.inj H
 go_enter Tryz.func96, Tryz.ntmps96
 go_wp2_with (first | ((with_reducible refine gate_callee (f := 129) rfl ?_); refine goesL_ (some 4) rfl rfl Tryz.func129 (by kernel_rfl) rfl #[.int .i64 a0] rfl (by (try simp only [List.map_toArray, List.map_cons, List.map_nil]); first | done | rfl | (simp only [List.length_drop, List.length_take]; rfl)) ?_; (with_reducible refine (strconv_Itoa.calls a0 t336 _ ?side1 A2.out).mono ?_); (case side1 => exact Glob.below HGT.out (by repeat (first | (with_reducible first | exact HB.out | apply below_alloc | apply pw_below_drewN | apply below_drew1) | exact HB.out))); rintro e w3 ⟨rfl, hb⟩; refine ⟨_, rfl, ?_⟩; have n0_ := Aside0.mk (below_step (by repeat (first | (with_reducible first | exact HB.out | apply below_alloc | apply pw_below_drewN | apply below_drew1) | exact HB.out)) hb); clear HB; have HB := n0_; clear n0_; (try clear hb)))
 go_ret
 exact ⟨by first | rfl | (simp [errW_none, errW_some] <;> rfl) | (simp [*, errW_none, errW_some] <;> rfl), by repeat (first | (with_reducible first | exact HB.out | apply below_alloc | apply pw_below_drewN | apply below_drew1) | exact HB.out)⟩
def impl_ReadDec.f (a0 : ByteArray) : Option Int := if a0.size ≤ 281474976710656 then (match Lib.atoiAll a0.data.toList with | .ok n => (impl_within.f n 0 999999999).bind fun t => if t = true then (impl_DecText.f n).bind fun s => if s.toList = a0.toList then some n else some (-1) else some (-1) | _ => some (-1)) else none
set_option maxHeartbeats 8000000 in
set_option maxRecDepth 100000 in
theorem impl_ReadDec.calls (a0 : ByteArray) (r : Int) (w : World) (hGE : Glob FactE w) (hGT : Glob FactT w) (h : impl_ReadDec.f a0 = some r) :
  Calls Tryz.prog 63 #[.string a0] w fun e w' => e = .returned (.int .i64 r) ∧ Below w.heap.size w w' := by
 have HB := Aside0.mk (Below.refl w.heap.size w)
 have HGT := Aside0.mk hGT
 clear hGT
 unfold impl_ReadDec.f at h
 by_cases hc : a0.size ≤ 281474976710656
 case neg => rw [if_neg hc] at h; cases h
 rw [if_pos hc] at h
 obtain ⟨⟨t1, p1, e1⟩, ⟨t2, p2, e2⟩⟩ := FactE.here hGE
 clear hGE
 cases ha : Lib.atoiAll a0.data.toList
 ·rename_i n
  rw [ha] at h
  have C : Calls Tryz.prog 94 #[.string a0] w fun e w' => e = .returned (.tuple #[.int .i64 n, .nilIface]) ∧ Below w.heap.size w w' := by
   refine (Tryz.strconv_Atoi_ok a0 (by omega) n ha w).mono fun e w' ⟨h1, h2⟩ => ⟨h1, ?_⟩
   rcases h2 with rfl | ⟨t, rfl⟩
   ·exact Below.refl _ _
   ·exact Go.Joins.below_bytesWorld _ w _ t (Nat.le_refl _)
  replace C := Aside0.mk C
  clear ha e1 e2
  have H : ((impl_within.f n 0 999999999).bind fun t => if t = true then (impl_DecText.f n).bind fun s => if s.toList = a0.toList then some n else some (-1) else some (-1)) = some r := h
  clear h
  replace H := Option.bind_eq_some_iff.mp H
  obtain ⟨tw, Aw0, H⟩ := H
  have Aw := Aside0.mk Aw0
  clear Aw0
  replace H : (if tw = true then (impl_DecText.f n).bind fun s => if s.toList = a0.toList then some n else some (-1) else some (-1)) = some r := H
  cases tw with
  | false =>
   rw [if_neg (by decide)] at H
   obtain rfl := Option.some.inj H
   go_enter Tryz.func63, Tryz.ntmps63
   go_wp2_with (first | (go_at_call 94; (with_reducible refine C.out.mono ?_); rintro e w' ⟨rfl, hb⟩; have n0_ := Aside0.mk (below_step (by repeat (first | (with_reducible first | exact HB.out | apply below_alloc | apply pw_below_drewN | apply below_drew1) | exact HB.out)) hb); clear HB; have HB := n0_; clear n0_; (try clear hb)) | (go_at_call 95; (with_reducible refine (impl_within.calls n 0 999999999 false _ Aw.out).mono ?_); rintro e w' ⟨rfl, ⟨nd, rfl⟩⟩))
   go_ret
   exact ⟨by first | rfl | (simp; done), by repeat (first | (with_reducible first | exact HB.out | apply below_alloc | apply pw_below_drewN | apply below_drew1) | exact HB.out)⟩
  | true =>
   rw [if_pos rfl] at H
   replace H := Option.bind_eq_some_iff.mp H
   obtain ⟨ts, As0, H⟩ := H
   have As := Aside0.mk As0
   clear As0
   replace H : (if ts.toList = a0.toList then some n else some (-1)) = some r := H
   by_cases c4 : ts.toList = a0.toList
   ·rw [if_pos c4] at H
    have c4b0 : (ts.toList == a0.toList) = true := beq_iff_eq.mpr c4
    have c4b1 : (ts.toList != a0.toList) = false := bne_eq_false_iff_eq.mpr c4
    clear c4
    obtain rfl := Option.some.inj H
    go_enter Tryz.func63, Tryz.ntmps63
    go_wp2_with (first | (go_at_call 94; (with_reducible refine C.out.mono ?_); rintro e w' ⟨rfl, hb⟩; have n0_ := Aside0.mk (below_step (by repeat (first | (with_reducible first | exact HB.out | apply below_alloc | apply pw_below_drewN | apply below_drew1) | exact HB.out)) hb); clear HB; have HB := n0_; clear n0_; (try clear hb)) | (go_at_call 95; (with_reducible refine (impl_within.calls n 0 999999999 true _ Aw.out).mono ?_); rintro e w' ⟨rfl, ⟨nd, rfl⟩⟩) | (go_at_call 96; (with_reducible refine (impl_DecText.calls n ts _ ?side1 As.out).mono ?_); (case side1 => exact Glob.below HGT.out (by repeat (first | (with_reducible first | exact HB.out | apply below_alloc | apply pw_below_drewN | apply below_drew1) | exact HB.out))); rintro e w3 ⟨rfl, hb⟩; have n0_ := Aside0.mk (below_step (by repeat (first | (with_reducible first | exact HB.out | apply below_alloc | apply pw_below_drewN | apply below_drew1) | exact HB.out)) hb); clear HB; have HB := n0_; clear n0_; (try clear hb)))
    go_ret
    exact ⟨by first | rfl | (simp; done), by repeat (first | (with_reducible first | exact HB.out | apply below_alloc | apply pw_below_drewN | apply below_drew1) | exact HB.out)⟩
   ·rw [if_neg c4] at H
    have c4b0 : (ts.toList == a0.toList) = false := beq_eq_false_iff_ne.mpr c4
    have c4b1 : (ts.toList != a0.toList) = true := bne_iff_ne.mpr c4
    clear c4
    obtain rfl := Option.some.inj H
    go_enter Tryz.func63, Tryz.ntmps63
    go_wp2_with (first | (go_at_call 94; (with_reducible refine C.out.mono ?_); rintro e w' ⟨rfl, hb⟩; have n0_ := Aside0.mk (below_step (by repeat (first | (with_reducible first | exact HB.out | apply below_alloc | apply pw_below_drewN | apply below_drew1) | exact HB.out)) hb); clear HB; have HB := n0_; clear n0_; (try clear hb)) | (go_at_call 95; (with_reducible refine (impl_within.calls n 0 999999999 true _ Aw.out).mono ?_); rintro e w' ⟨rfl, ⟨nd, rfl⟩⟩) | (go_at_call 96; (with_reducible refine (impl_DecText.calls n ts _ ?side1 As.out).mono ?_); (case side1 => exact Glob.below HGT.out (by repeat (first | (with_reducible first | exact HB.out | apply below_alloc | apply pw_below_drewN | apply below_drew1) | exact HB.out))); rintro e w3 ⟨rfl, hb⟩; have n0_ := Aside0.mk (below_step (by repeat (first | (with_reducible first | exact HB.out | apply below_alloc | apply pw_below_drewN | apply below_drew1) | exact HB.out)) hb); clear HB; have HB := n0_; clear n0_; (try clear hb)))
    go_ret
    exact ⟨by first | rfl | (simp; done), by repeat (first | (with_reducible first | exact HB.out | apply below_alloc | apply pw_below_drewN | apply below_drew1) | exact HB.out)⟩
 ·rw [ha] at h
  obtain rfl := Option.some.inj h
  have C0 := Any.strconv_Atoi_syntax_var Tryz.laysC172 a0 hc ha t1 p1 w e1
  have C1 : Calls Tryz.prog 94 #[.string a0] w fun e w' => ∃ N t, e = .returned (.tuple #[.int .i64 0, .iface t (.pointer (some ⟨N, 0, none⟩))]) ∧ Below w.heap.size w w' :=
   (show Calls Tryz.prog 94 _ _ _ from C0).mono fun e w' ⟨N, h1, _, _, h4⟩ => ⟨N, _, h1, h4⟩
  have C := Aside0.mk C1
  clear C0 C1
  clear ha e1 e2 h
  go_enter Tryz.func63, Tryz.ntmps63
  go_wp2_with (go_at_call 94; (with_reducible refine C.out.mono ?_); rintro e w' ⟨NE, TE, rfl, hb⟩; have n0_ := Aside0.mk (below_step (by repeat (first | (with_reducible first | exact HB.out | apply below_alloc | apply pw_below_drewN | apply below_drew1) | exact HB.out)) hb); clear HB; have HB := n0_; clear n0_; (try clear hb))
  go_ret
  exact ⟨by first | rfl | (simp; done), by repeat (first | (with_reducible first | exact HB.out | apply below_alloc | apply pw_below_drewN | apply below_drew1) | exact HB.out)⟩
 ·rw [ha] at h
  obtain rfl := Option.some.inj h
  have C := Aside0.mk (Tryz.strconv_Atoi_range_var a0 hc ha t2 p2 w e2)
  clear ha e1 e2 h
  go_enter Tryz.func63, Tryz.ntmps63
  go_wp2_with (go_at_call 94; (with_reducible refine C.out.mono ?_); rintro e w' ⟨NE, rfl, -, -, hb⟩; have n0_ := Aside0.mk (below_step (by repeat (first | (with_reducible first | exact HB.out | apply below_alloc | apply pw_below_drewN | apply below_drew1) | exact HB.out)) hb); clear HB; have HB := n0_; clear n0_; (try clear hb))
  go_ret
  exact ⟨by first | rfl | (simp; done), by repeat (first | (with_reducible first | exact HB.out | apply below_alloc | apply pw_below_drewN | apply below_drew1) | exact HB.out)⟩
def impl_all__impl_isDigit.l0 : Nat → ByteArray → Int → Int → Option (Bool)
 | 0, _, _, _ => none
 | k + 1, x0, x7, x8 => if x8 < x7 then (if 0 ≤ x8 then (if x8 < (x0.size : Int) then ((impl_isDigit.f (bt x0 x8)).bind fun t340 => (if t340 = true then (impl_all__impl_isDigit.l0 k x0 x7 (wrap64 (x8 + 1))) else (some false))) else (none)) else (none)) else (some true)
def impl_all__impl_isDigit.f (k : Nat) (a0 : ByteArray)  : Option (Bool) := impl_all__impl_isDigit.l0 k a0 (a0.size : Int) 0
theorem impl_all__impl_isDigit.mono_l : ∀ k, (∀ y0 y1 y2, LeO (impl_all__impl_isDigit.l0 k y0 y1 y2) (impl_all__impl_isDigit.l0 (k + 1) y0 y1 y2))
 | 0 => fun _ _ _ r h => by simp [impl_all__impl_isDigit.l0] at h
 | k + 1 => by
  have ih0 := impl_all__impl_isDigit.mono_l k
  ·intro y0 y1 y2
   unfold impl_all__impl_isDigit.l0
   repeat' first
   | (with_reducible exact ih0 _ _ _)
   | (with_reducible exact LeO.refl _)
   | (with_reducible exact LeO.none _)
   | (with_reducible refine LeO.ite ?_ ?_)
   | (with_reducible refine LeO.bind ?_ (fun _ => ?_))
   | exact ih0 _ _ _
   | exact LeO.none _
   | refine LeO.ite ?_ ?_
   | refine LeO.bind ?_ (fun _ => ?_)
theorem impl_all__impl_isDigit.mono : ∀ a0 k, LeO (impl_all__impl_isDigit.f k a0) (impl_all__impl_isDigit.f (k + 1) a0) := by
 intro a0 k
 have ih0 := impl_all__impl_isDigit.mono_l k
 unfold impl_all__impl_isDigit.f
 repeat' first
   | (with_reducible exact ih0 _ _ _)
   | (with_reducible exact LeO.refl _)
   | (with_reducible exact LeO.none _)
   | (with_reducible refine LeO.ite ?_ ?_)
   | (with_reducible refine LeO.bind ?_ (fun _ => ?_))
   | exact ih0 _ _ _
   | exact LeO.none _
   | refine LeO.ite ?_ ?_
   | refine LeO.bind ?_ (fun _ => ?_)
def impl_isNumber.f (k : Nat) (a0 : ByteArray) : Option (Bool) := if a0.toList = ([] : List UInt8) then (some false) else ((impl_all__impl_isDigit.f k a0).bind fun t341 => (some t341))
theorem impl_isNumber.mono : ∀ a0 k, LeO (impl_isNumber.f k a0) (impl_isNumber.f (k + 1) a0) := by
 intro a0 k
 unfold impl_isNumber.f
 repeat' first
   | (with_reducible exact impl_all__impl_isDigit.mono _ _)
   | (with_reducible exact LeO.refl _)
   | (with_reducible exact LeO.none _)
   | (with_reducible refine LeO.ite ?_ ?_)
   | (with_reducible refine LeO.bind ?_ (fun _ => ?_))
   | exact impl_all__impl_isDigit.mono _ _
   | exact LeO.none _
   | refine LeO.ite ?_ ?_
   | refine LeO.bind ?_ (fun _ => ?_)
def impl_isLetter.f (a0 : Int) : Option (Bool) := (impl_isLower.f a0).bind fun t337 => (if t337 = true then (some true) else (if a0 ≥ 65 then (some (decide (a0 ≤ 90))) else (some false)))
def impl_VersionOk_1.f (a0 : Int) : Option (Bool) := (impl_isLetter.f a0).bind fun t338 => (if t338 = true then (some true) else ((impl_isDigit.f a0).bind fun t339 => (if t339 = true then (some true) else (some (a0 == 45)))))
def impl_all__impl_VersionOk_1.l0 : Nat → ByteArray → Int → Int → Option (Bool)
 | 0, _, _, _ => none
 | k + 1, x0, x7, x8 => if x8 < x7 then (if 0 ≤ x8 then (if x8 < (x0.size : Int) then ((impl_VersionOk_1.f (bt x0 x8)).bind fun t342 => (if t342 = true then (impl_all__impl_VersionOk_1.l0 k x0 x7 (wrap64 (x8 + 1))) else (some false))) else (none)) else (none)) else (some true)
def impl_all__impl_VersionOk_1.f (k : Nat) (a0 : ByteArray)  : Option (Bool) := impl_all__impl_VersionOk_1.l0 k a0 (a0.size : Int) 0
theorem impl_all__impl_VersionOk_1.mono_l : ∀ k, (∀ y0 y1 y2, LeO (impl_all__impl_VersionOk_1.l0 k y0 y1 y2) (impl_all__impl_VersionOk_1.l0 (k + 1) y0 y1 y2))
 | 0 => fun _ _ _ r h => by simp [impl_all__impl_VersionOk_1.l0] at h
 | k + 1 => by
  have ih0 := impl_all__impl_VersionOk_1.mono_l k
  ·intro y0 y1 y2
   unfold impl_all__impl_VersionOk_1.l0
   repeat' first
   | (with_reducible exact ih0 _ _ _)
   | (with_reducible exact LeO.refl _)
   | (with_reducible exact LeO.none _)
   | (with_reducible refine LeO.ite ?_ ?_)
   | (with_reducible refine LeO.bind ?_ (fun _ => ?_))
   | exact ih0 _ _ _
   | exact LeO.none _
   | refine LeO.ite ?_ ?_
   | refine LeO.bind ?_ (fun _ => ?_)
theorem impl_all__impl_VersionOk_1.mono : ∀ a0 k, LeO (impl_all__impl_VersionOk_1.f k a0) (impl_all__impl_VersionOk_1.f (k + 1) a0) := by
 intro a0 k
 have ih0 := impl_all__impl_VersionOk_1.mono_l k
 unfold impl_all__impl_VersionOk_1.f
 repeat' first
   | (with_reducible exact ih0 _ _ _)
   | (with_reducible exact LeO.refl _)
   | (with_reducible exact LeO.none _)
   | (with_reducible refine LeO.ite ?_ ?_)
   | (with_reducible refine LeO.bind ?_ (fun _ => ?_))
   | exact ih0 _ _ _
   | exact LeO.none _
   | refine LeO.ite ?_ ?_
   | refine LeO.bind ?_ (fun _ => ?_)
mutual
def impl_VersionOk.l0 : Nat → List Int → Int → Int → Int → Int → Int → List ByteArray → Option (Bool)
 | 0, _, _, _, _, _, _, _ => none
 | k + 1, x13, x14, x15, x344000, x344001, x344002, x344003 => if x15 < x14 then (if 0 ≤ x15 then (if x15 < (x13.length : Int) then ((impl_within.f (rd x13 x15) 0 999999999).bind fun t348 => (if t348 = true then (impl_VersionOk.l0 k x13 x14 (wrap64 (x15 + 1)) x344000 x344001 x344002 x344003) else (some false))) else (none)) else (none)) else (impl_VersionOk.l1 k x344003 (x344003.length : Int) 0 x344000 x344001 x344002 x344003)
def impl_VersionOk.l1 : Nat → List ByteArray → Int → Int → Int → Int → Int → List ByteArray → Option (Bool)
 | 0, _, _, _, _, _, _, _ => none
 | k + 1, x24, x25, x26, x344000, x344001, x344002, x344003 => if x26 < x25 then (if 0 ≤ x26 then (if x26 < (x24.length : Int) then ((impl_within.f ((rdOf ByteArray.empty x24 x26).size : Int) 1 20).bind fun t350 => (if t350 = true then ((impl_all__impl_VersionOk_1.f k (rdOf ByteArray.empty x24 x26)).bind fun t351 => (if t351 = true then ((impl_isNumber.f k (rdOf ByteArray.empty x24 x26)).bind fun t352 => (if t352 = true then ((impl_ReadDec.f (rdOf ByteArray.empty x24 x26)).bind fun t353 => (if t353 < 0 then (some false) else (impl_VersionOk.l1 k x24 x25 (wrap64 (x26 + 1)) x344000 x344001 x344002 x344003))) else (impl_VersionOk.l1 k x24 x25 (wrap64 (x26 + 1)) x344000 x344001 x344002 x344003))) else (some false))) else (some false))) else (none)) else (none)) else (some (decide ((x344003.length : Int) ≤ 5)))
end
def impl_VersionOk.f (k : Nat) (a0_0 : Int) (a0_1 : Int) (a0_2 : Int) (l0_3 : List ByteArray) : Option (Bool) := (some (([a0_0, a0_1, a0_2] : List Int) : List Int)).bind fun y344 => (impl_VersionOk.l0 k y344 (y344.length : Int) 0 a0_0 a0_1 a0_2 l0_3)
theorem impl_VersionOk.mono_l : ∀ k, (∀ y0 y1 y2 y3 y4 y5 y6, LeO (impl_VersionOk.l0 k y0 y1 y2 y3 y4 y5 y6) (impl_VersionOk.l0 (k + 1) y0 y1 y2 y3 y4 y5 y6)) ∧ (∀ y0 y1 y2 y3 y4 y5 y6, LeO (impl_VersionOk.l1 k y0 y1 y2 y3 y4 y5 y6) (impl_VersionOk.l1 (k + 1) y0 y1 y2 y3 y4 y5 y6))
 | 0 => ⟨fun _ _ _ _ _ _ _ r h => by simp [impl_VersionOk.l0] at h, fun _ _ _ _ _ _ _ r h => by simp [impl_VersionOk.l1] at h⟩
 | k + 1 => by
  obtain ⟨ih0, ih1⟩ := impl_VersionOk.mono_l k
  refine ⟨?_, ?_⟩
  ·intro y0 y1 y2 y3 y4 y5 y6
   unfold impl_VersionOk.l0
   repeat' first
   | (with_reducible exact ih0 _ _ _ _ _ _ _)
   | (with_reducible exact ih1 _ _ _ _ _ _ _)
   | (with_reducible exact impl_all__impl_VersionOk_1.mono _ _)
   | (with_reducible exact impl_isNumber.mono _ _)
   | (with_reducible exact LeO.refl _)
   | (with_reducible exact LeO.none _)
   | (with_reducible refine LeO.ite ?_ ?_)
   | (with_reducible refine LeO.bind ?_ (fun _ => ?_))
   | exact ih0 _ _ _ _ _ _ _
   | exact ih1 _ _ _ _ _ _ _
   | exact impl_all__impl_VersionOk_1.mono _ _
   | exact impl_isNumber.mono _ _
   | exact LeO.none _
   | refine LeO.ite ?_ ?_
   | refine LeO.bind ?_ (fun _ => ?_)
  ·intro y0 y1 y2 y3 y4 y5 y6
   unfold impl_VersionOk.l1
   repeat' first
   | (with_reducible exact ih0 _ _ _ _ _ _ _)
   | (with_reducible exact ih1 _ _ _ _ _ _ _)
   | (with_reducible exact impl_all__impl_VersionOk_1.mono _ _)
   | (with_reducible exact impl_isNumber.mono _ _)
   | (with_reducible exact LeO.refl _)
   | (with_reducible exact LeO.none _)
   | (with_reducible refine LeO.ite ?_ ?_)
   | (with_reducible refine LeO.bind ?_ (fun _ => ?_))
   | exact ih0 _ _ _ _ _ _ _
   | exact ih1 _ _ _ _ _ _ _
   | exact impl_all__impl_VersionOk_1.mono _ _
   | exact impl_isNumber.mono _ _
   | exact LeO.none _
   | refine LeO.ite ?_ ?_
   | refine LeO.bind ?_ (fun _ => ?_)
theorem impl_VersionOk.mono : ∀ a0 a1 a2 a3 k, LeO (impl_VersionOk.f k a0 a1 a2 a3) (impl_VersionOk.f (k + 1) a0 a1 a2 a3) := by
 intro a0 a1 a2 a3 k
 obtain ⟨ih0, ih1⟩ := impl_VersionOk.mono_l k
 unfold impl_VersionOk.f
 repeat' first
   | (with_reducible exact ih0 _ _ _ _ _ _ _)
   | (with_reducible exact ih1 _ _ _ _ _ _ _)
   | (with_reducible exact impl_all__impl_VersionOk_1.mono _ _)
   | (with_reducible exact impl_isNumber.mono _ _)
   | (with_reducible exact LeO.refl _)
   | (with_reducible exact LeO.none _)
   | (with_reducible refine LeO.ite ?_ ?_)
   | (with_reducible refine LeO.bind ?_ (fun _ => ?_))
   | exact ih0 _ _ _ _ _ _ _
   | exact ih1 _ _ _ _ _ _ _
   | exact impl_all__impl_VersionOk_1.mono _ _
   | exact impl_isNumber.mono _ _
   | exact LeO.none _
   | refine LeO.ite ?_ ?_
   | refine LeO.bind ?_ (fun _ => ?_)
def impl_VersionText.f (k : Nat) (a0_0 : Int) (a0_1 : Int) (a0_2 : Int) (l0_3 : List ByteArray) : Option (ByteArray) := (impl_VersionOk.f k a0_0 a0_1 a0_2 l0_3).bind fun t355 => (if t355 = true then ((impl_DecText.f a0_0).bind fun t356 => (if t356.size + 1 ≤ 9223372036854775807 then ((impl_DecText.f a0_1).bind fun t357 => (if (t356 ++ (⟨#[46]⟩ : ByteArray)).size + t357.size ≤ 9223372036854775807 then (if ((t356 ++ (⟨#[46]⟩ : ByteArray)) ++ t357).size + 1 ≤ 9223372036854775807 then ((impl_DecText.f a0_2).bind fun t358 => (if (((t356 ++ (⟨#[46]⟩ : ByteArray)) ++ t357) ++ (⟨#[46]⟩ : ByteArray)).size + t358.size ≤ 9223372036854775807 then (if (l0_3.length : Int) > 0 then ((strings_Join.f l0_3 (⟨#[46]⟩ : ByteArray)).bind fun t359 => (if 1 + t359.size ≤ 9223372036854775807 then (if ((((t356 ++ (⟨#[46]⟩ : ByteArray)) ++ t357) ++ (⟨#[46]⟩ : ByteArray)) ++ t358).size + ((⟨#[45]⟩ : ByteArray) ++ t359).size ≤ 9223372036854775807 then (some (((((t356 ++ (⟨#[46]⟩ : ByteArray)) ++ t357) ++ (⟨#[46]⟩ : ByteArray)) ++ t358) ++ ((⟨#[45]⟩ : ByteArray) ++ t359))) else (none)) else (none))) else (some ((((t356 ++ (⟨#[46]⟩ : ByteArray)) ++ t357) ++ (⟨#[46]⟩ : ByteArray)) ++ t358))) else (none))) else (none)) else (none))) else (none))) else (some (⟨#[]⟩ : ByteArray)))
theorem impl_VersionText.mono : ∀ a0 a1 a2 a3 k, LeO (impl_VersionText.f k a0 a1 a2 a3) (impl_VersionText.f (k + 1) a0 a1 a2 a3) := by
 intro a0 a1 a2 a3 k
 unfold impl_VersionText.f
 repeat' first
   | (with_reducible exact impl_VersionOk.mono _ _ _ _ _)
   | (with_reducible exact LeO.refl _)
   | (with_reducible exact LeO.none _)
   | (with_reducible refine LeO.ite ?_ ?_)
   | (with_reducible refine LeO.bind ?_ (fun _ => ?_))
   | exact impl_VersionOk.mono _ _ _ _ _
   | exact LeO.none _
   | refine LeO.ite ?_ ?_
   | refine LeO.bind ?_ (fun _ => ?_)
def impl_ReadVersion.f (k : Nat) (a0 : ByteArray) : Option (Int × Int × Int × List ByteArray × Bool) := (strings_Cut.f a0 (⟨#[45]⟩ : ByteArray)).bind fun bt361 => ((strings_Split.f bt361.1 (⟨#[46]⟩ : ByteArray)).bind fun t364 => (if (t364.length : Int) = 3 then (if 0 < (t364.length : Int) then ((impl_ReadDec.f (rdOf ByteArray.empty t364 0)).bind fun t368 => (if 1 < (t364.length : Int) then ((impl_ReadDec.f (rdOf ByteArray.empty t364 1)).bind fun t370 => (if 2 < (t364.length : Int) then ((impl_ReadDec.f (rdOf ByteArray.empty t364 2)).bind fun t372 => (if bt361.2.2 = true then ((strings_Split.f bt361.2.1 (⟨#[46]⟩ : ByteArray)).bind fun t374 => ((impl_VersionText.f k t368 t370 t372 t374).bind fun t377 => (if t377.toList = a0.toList then (if a0.toList = ([] : List UInt8) then (some (0, 0, 0, ([] : List ByteArray), false)) else (some (t368, t370, t372, t374, true))) else (some (0, 0, 0, ([] : List ByteArray), false))))) else ((impl_VersionText.f k t368 t370 t372 ([] : List ByteArray)).bind fun t378 => (if t378.toList = a0.toList then (if a0.toList = ([] : List UInt8) then (some (0, 0, 0, ([] : List ByteArray), false)) else (some (t368, t370, t372, ([] : List ByteArray), true))) else (some (0, 0, 0, ([] : List ByteArray), false)))))) else (none))) else (none))) else (none)) else (some (0, 0, 0, ([] : List ByteArray), false))))
theorem impl_ReadVersion.mono : ∀ a0 k, LeO (impl_ReadVersion.f k a0) (impl_ReadVersion.f (k + 1) a0) := by
 intro a0 k
 unfold impl_ReadVersion.f
 repeat' first
   | (with_reducible exact impl_VersionText.mono _ _ _ _ _)
   | (with_reducible exact LeO.refl _)
   | (with_reducible exact LeO.none _)
   | (with_reducible refine LeO.ite ?_ ?_)
   | (with_reducible refine LeO.bind ?_ (fun _ => ?_))
   | exact impl_VersionText.mono _ _ _ _ _
   | exact LeO.none _
   | refine LeO.ite ?_ ?_
   | refine LeO.bind ?_ (fun _ => ?_)
def impl_zeroPre.f (k : Nat) (a0 : Int) (a1 : Int) (a2 : Int) : Option (ByteArray) := (impl_VersionText.f k a0 a1 a2 (([(⟨#[48]⟩ : ByteArray)] : List ByteArray))).bind fun t382 => (some t382)
theorem impl_zeroPre.mono : ∀ a0 a1 a2 k, LeO (impl_zeroPre.f k a0 a1 a2) (impl_zeroPre.f (k + 1) a0 a1 a2) := by
 intro a0 a1 a2 k
 unfold impl_zeroPre.f
 repeat' first
   | (with_reducible exact impl_VersionText.mono _ _ _ _ _)
   | (with_reducible exact LeO.refl _)
   | (with_reducible exact LeO.none _)
   | (with_reducible refine LeO.ite ?_ ?_)
   | (with_reducible refine LeO.bind ?_ (fun _ => ?_))
   | exact impl_VersionText.mono _ _ _ _ _
   | exact LeO.none _
   | refine LeO.ite ?_ ?_
   | refine LeO.bind ?_ (fun _ => ?_)
def slices_Clone_string_string.f (l0 : List ByteArray) : Option (List ByteArray) := if l0.length * 16 ≤ 140737488355328 then some l0 else none
theorem slices_Clone_string_string.calls (A0 : Option Addr) (c0 : Nat) (l0 : List ByteArray) (r : List ByteArray) (w : World) (hr0 : Kd.C Kd.string w A0 l0.length l0) (hc0 : l0.length ≤ c0) (h : slices_Clone_string_string.f l0 = some r) :
  Calls Tryz.prog 119 #[.slice A0 l0.length c0] w fun e w' => ∃ v0_ : Value, e = .returned (v0_) ∧ Kd.R Kd.string 9 w' w.heap.size (fun _ => True) v0_ r ∧ Below w.heap.size w w' := by
 unfold slices_Clone_string_string.f at h
 by_cases hc : l0.length * 16 ≤ 140737488355328
 ·rw [if_pos hc] at h
  obtain rfl := Option.some.inj h
  cases l0 with
  | nil =>
   cases A0 with
   | none => exact (Tryz.slices_Clone_string_nil 0 c0 w).mono fun e w' ⟨h1, h2⟩ => ⟨_, h1, h2 ▸ Kd.R_nil _ _ _ _ _, h2 ▸ Below.refl _ _⟩
   | some a => exact (Tryz.slices_Clone_string_zero a c0 w).mono fun e w' ⟨v, h1, h2, _, h3⟩ => ⟨v, h1, Kd.R_of_own h2 (fun _ _ => trivial), h3⟩
  | cons x l =>
   obtain ⟨ad, rfl, hcell⟩ := hr0.2.2 (by simp)
   have cell : ∀ (j : Nat) y, (x :: l)[j]? = some y → w.cell? (ad.add (j * 1 + 0)) = some (.string y) := by
    intro j y hy
    obtain ⟨cs, _, hk, hi⟩ := hcell j y hy
    have hk' : cs = [.string y] := hk
    subst hk'
    exact hi 0 _ rfl
   obtain ⟨b, o, sp⟩ := ad
   have hsp : sp = none := Go.Proofs.cell_spot (cell 0 x rfl)
   subst hsp
   have e : ∀ j, (⟨b, o, none⟩ : Addr).add (j * 1 + 0) = ⟨b, o + j, none⟩ := fun j => by unfold Addr.add; simp
   refine (Tryz.slices_Clone_string b o (x :: l).length c0 (x :: l) w (Nat.le_refl _) hc (fun j hj => by rw [← e j]; refine cell j _ ?_; rw [List.getD_eq_getElem?_getD, List.getElem?_eq_getElem hj]; rfl)).mono fun e w' ⟨v, h1, h2, _, h3⟩ => ⟨v, h1, Kd.R_of_own ?_ (fun _ _ => trivial), h3⟩
   rw [List.take_length] at h2; exact h2
 ·rw [if_neg hc] at h; cases h
def impl_alone.f (k : Nat) (a0_0 : Int) (a0_1 : Int) (a0_2 : Int) (l0_3 : List ByteArray) : Option (ByteArray × ByteArray) := (impl_zeroPre.f k a0_0 a0_1 (wrap64 (a0_2 + 1))).bind fun t385 => (if (l0_3.length : Int) > 0 then ((slices_Clone_string_string.f l0_3).bind fun t387 => (if t387.length < 8796093022208 then ((impl_VersionText.f k a0_0 a0_1 a0_2 (t387 ++ [(⟨#[48]⟩ : ByteArray)])).bind fun t393 => ((impl_VersionText.f k a0_0 a0_1 a0_2 l0_3).bind fun t394 => (some (t394, t393)))) else (none))) else ((impl_VersionText.f k a0_0 a0_1 a0_2 l0_3).bind fun t395 => (some (t395, t385))))
theorem impl_alone.mono : ∀ a0 a1 a2 a3 k, LeO (impl_alone.f k a0 a1 a2 a3) (impl_alone.f (k + 1) a0 a1 a2 a3) := by
 intro a0 a1 a2 a3 k
 unfold impl_alone.f
 repeat' first
   | (with_reducible exact impl_VersionText.mono _ _ _ _ _)
   | (with_reducible exact impl_zeroPre.mono _ _ _ _)
   | (with_reducible exact LeO.refl _)
   | (with_reducible exact LeO.none _)
   | (with_reducible refine LeO.ite ?_ ?_)
   | (with_reducible refine LeO.bind ?_ (fun _ => ?_))
   | exact impl_VersionText.mono _ _ _ _ _
   | exact impl_zeroPre.mono _ _ _ _
   | exact LeO.none _
   | refine LeO.ite ?_ ?_
   | refine LeO.bind ?_ (fun _ => ?_)
def impl_Exact.f (k : Nat) (a0 : ByteArray) : Option ((List (S97))) := (impl_ReadVersion.f k a0).bind fun bt396 => ((impl_alone.f k bt396.1 bt396.2.1 bt396.2.2.1 bt396.2.2.2.1).bind fun bt404 => (if bt396.2.2.2.2 = true then (if bt404.2.toList = ([] : List UInt8) then (some ([] : List (S97))) else (some (([(⟨bt404.1, bt404.2⟩ : S97)] : List (S97))))) else (some ([] : List (S97)))))
theorem impl_Exact.mono : ∀ a0 k, LeO (impl_Exact.f k a0) (impl_Exact.f (k + 1) a0) := by
 intro a0 k
 unfold impl_Exact.f
 repeat' first
   | (with_reducible exact impl_ReadVersion.mono _ _)
   | (with_reducible exact impl_alone.mono _ _ _ _ _)
   | (with_reducible exact LeO.refl _)
   | (with_reducible exact LeO.none _)
   | (with_reducible refine LeO.ite ?_ ?_)
   | (with_reducible refine LeO.bind ?_ (fun _ => ?_))
   | exact impl_ReadVersion.mono _ _
   | exact impl_alone.mono _ _ _ _ _
   | exact LeO.none _
   | refine LeO.ite ?_ ?_
   | refine LeO.bind ?_ (fun _ => ?_)
def impl_PlainOk_1.f (a0 : Int) : Option (Bool) := if a0 ≥ 33 then (if a0 ≤ 126 then (if a0 = 34 then (some false) else (if a0 = 39 then (some false) else (if a0 = 44 then (some false) else (some (a0 != 92))))) else (some false)) else (some false)
def impl_all__impl_PlainOk_1.l0 : Nat → ByteArray → Int → Int → Option (Bool)
 | 0, _, _, _ => none
 | k + 1, x0, x7, x8 => if x8 < x7 then (if 0 ≤ x8 then (if x8 < (x0.size : Int) then ((impl_PlainOk_1.f (bt x0 x8)).bind fun t410 => (if t410 = true then (impl_all__impl_PlainOk_1.l0 k x0 x7 (wrap64 (x8 + 1))) else (some false))) else (none)) else (none)) else (some true)
def impl_all__impl_PlainOk_1.f (k : Nat) (a0 : ByteArray)  : Option (Bool) := impl_all__impl_PlainOk_1.l0 k a0 (a0.size : Int) 0
theorem impl_all__impl_PlainOk_1.mono_l : ∀ k, (∀ y0 y1 y2, LeO (impl_all__impl_PlainOk_1.l0 k y0 y1 y2) (impl_all__impl_PlainOk_1.l0 (k + 1) y0 y1 y2))
 | 0 => fun _ _ _ r h => by simp [impl_all__impl_PlainOk_1.l0] at h
 | k + 1 => by
  have ih0 := impl_all__impl_PlainOk_1.mono_l k
  ·intro y0 y1 y2
   unfold impl_all__impl_PlainOk_1.l0
   repeat' first
   | (with_reducible exact ih0 _ _ _)
   | (with_reducible exact LeO.refl _)
   | (with_reducible exact LeO.none _)
   | (with_reducible refine LeO.ite ?_ ?_)
   | (with_reducible refine LeO.bind ?_ (fun _ => ?_))
   | exact ih0 _ _ _
   | exact LeO.none _
   | refine LeO.ite ?_ ?_
   | refine LeO.bind ?_ (fun _ => ?_)
theorem impl_all__impl_PlainOk_1.mono : ∀ a0 k, LeO (impl_all__impl_PlainOk_1.f k a0) (impl_all__impl_PlainOk_1.f (k + 1) a0) := by
 intro a0 k
 have ih0 := impl_all__impl_PlainOk_1.mono_l k
 unfold impl_all__impl_PlainOk_1.f
 repeat' first
   | (with_reducible exact ih0 _ _ _)
   | (with_reducible exact LeO.refl _)
   | (with_reducible exact LeO.none _)
   | (with_reducible refine LeO.ite ?_ ?_)
   | (with_reducible refine LeO.bind ?_ (fun _ => ?_))
   | exact ih0 _ _ _
   | exact LeO.none _
   | refine LeO.ite ?_ ?_
   | refine LeO.bind ?_ (fun _ => ?_)
def impl_PlainOk.f (k : Nat) (a0 : ByteArray) : Option (Bool) := if (a0.size : Int) ≤ 100 then ((impl_all__impl_PlainOk_1.f k a0).bind fun t411 => (some t411)) else (some false)
theorem impl_PlainOk.mono : ∀ a0 k, LeO (impl_PlainOk.f k a0) (impl_PlainOk.f (k + 1) a0) := by
 intro a0 k
 unfold impl_PlainOk.f
 repeat' first
   | (with_reducible exact impl_all__impl_PlainOk_1.mono _ _)
   | (with_reducible exact LeO.refl _)
   | (with_reducible exact LeO.none _)
   | (with_reducible refine LeO.ite ?_ ?_)
   | (with_reducible refine LeO.bind ?_ (fun _ => ?_))
   | exact impl_all__impl_PlainOk_1.mono _ _
   | exact LeO.none _
   | refine LeO.ite ?_ ?_
   | refine LeO.bind ?_ (fun _ => ?_)
def impl_sumLength.j0 : Nat → ByteArray → Bool → Option (Int)
 | 0, _, _ => none
 | k + 1, x3, x6 => if x6 = true then (some 32) else (if x3.toList = ([115, 104, 97, 53, 49, 50] : List UInt8) then (some 64) else (some (-1)))
def impl_sumLength.f (k : Nat) (a0 : ByteArray) : Option (Int) := if a0.toList = ([115, 104, 97, 49] : List UInt8) then (some 20) else (if a0.toList = ([115, 104, 97, 50, 53, 54] : List UInt8) then (impl_sumLength.j0 k a0 (a0.toList == ([115, 104, 97, 50, 53, 54] : List UInt8))) else (impl_sumLength.j0 k a0 (a0.toList == ([104, 49] : List UInt8))))
theorem impl_sumLength.mono_l : ∀ k, (∀ y0 y1, LeO (impl_sumLength.j0 k y0 y1) (impl_sumLength.j0 (k + 1) y0 y1))
 | 0 => fun _ _ r h => by simp [impl_sumLength.j0] at h
 | k + 1 => by
  have ih0 := impl_sumLength.mono_l k
  ·intro y0 y1
   unfold impl_sumLength.j0
   repeat' first
   | (with_reducible exact ih0 _ _)
   | (with_reducible exact LeO.refl _)
   | (with_reducible exact LeO.none _)
   | (with_reducible refine LeO.ite ?_ ?_)
   | (with_reducible refine LeO.bind ?_ (fun _ => ?_))
   | exact ih0 _ _
   | exact LeO.none _
   | refine LeO.ite ?_ ?_
   | refine LeO.bind ?_ (fun _ => ?_)
theorem impl_sumLength.mono : ∀ a0 k, LeO (impl_sumLength.f k a0) (impl_sumLength.f (k + 1) a0) := by
 intro a0 k
 have ih0 := impl_sumLength.mono_l k
 unfold impl_sumLength.f
 repeat' first
   | (with_reducible exact ih0 _ _)
   | (with_reducible exact LeO.refl _)
   | (with_reducible exact LeO.none _)
   | (with_reducible refine LeO.ite ?_ ?_)
   | (with_reducible refine LeO.bind ?_ (fun _ => ?_))
   | exact ih0 _ _
   | exact LeO.none _
   | refine LeO.ite ?_ ?_
   | refine LeO.bind ?_ (fun _ => ?_)
def impl_areSums.l0 : Nat → List (S51) → List (S51) → Int → Int → Option (Bool)
 | 0, _, _, _, _ => none
 | k + 1, x0, x5, x6, x7 => if x7 < x6 then (if 0 ≤ x7 then (if x7 < (x5.length : Int) then ((impl_sumLength.f k ((rd_T51 x5 x7).f0)).bind fun t414 => (if (((rd_T51 x5 x7).f1).size : Int) = t414 then (if x7 > 0 then (if 0 ≤ (wrap64 (x7 - 1)) then (if (wrap64 (x7 - 1)) < (x0.length : Int) then (if ((Op.bytesLess (((rd_T51 x0 (wrap64 (x7 - 1))).f0).toList) (((rd_T51 x5 x7).f0).toList)) = true) then (impl_areSums.l0 k x0 x5 x6 (wrap64 (x7 + 1))) else (some false)) else (none)) else (none)) else (impl_areSums.l0 k x0 x5 x6 (wrap64 (x7 + 1)))) else (some false))) else (none)) else (none)) else (some true)
def impl_areSums.f (k : Nat) (l0 : List (S51)) : Option (Bool) := impl_areSums.l0 k l0 l0 (l0.length : Int) 0
theorem impl_areSums.mono_l : ∀ k, (∀ y0 y1 y2 y3, LeO (impl_areSums.l0 k y0 y1 y2 y3) (impl_areSums.l0 (k + 1) y0 y1 y2 y3))
 | 0 => fun _ _ _ _ r h => by simp [impl_areSums.l0] at h
 | k + 1 => by
  have ih0 := impl_areSums.mono_l k
  ·intro y0 y1 y2 y3
   unfold impl_areSums.l0
   repeat' first
   | (with_reducible exact ih0 _ _ _ _)
   | (with_reducible exact impl_sumLength.mono _ _)
   | (with_reducible exact LeO.refl _)
   | (with_reducible exact LeO.none _)
   | (with_reducible refine LeO.ite ?_ ?_)
   | (with_reducible refine LeO.bind ?_ (fun _ => ?_))
   | exact ih0 _ _ _ _
   | exact impl_sumLength.mono _ _
   | exact LeO.none _
   | refine LeO.ite ?_ ?_
   | refine LeO.bind ?_ (fun _ => ?_)
theorem impl_areSums.mono : ∀ a0 k, LeO (impl_areSums.f k a0) (impl_areSums.f (k + 1) a0) := by
 intro a0 k
 have ih0 := impl_areSums.mono_l k
 unfold impl_areSums.f
 repeat' first
   | (with_reducible exact ih0 _ _ _ _)
   | (with_reducible exact impl_sumLength.mono _ _)
   | (with_reducible exact LeO.refl _)
   | (with_reducible exact LeO.none _)
   | (with_reducible refine LeO.ite ?_ ?_)
   | (with_reducible refine LeO.bind ?_ (fun _ => ?_))
   | exact ih0 _ _ _ _
   | exact impl_sumLength.mono _ _
   | exact LeO.none _
   | refine LeO.ite ?_ ?_
   | refine LeO.bind ?_ (fun _ => ?_)
def impl_PackOk.f (k : Nat) (a0_0 : ByteArray) (a0_1 : ByteArray) (a0_2 : ByteArray) (l0_3 : List (S51)) (a0_4 : Bool) (l0_5 : List ByteArray) : Option (Bool) := (impl_NameOk.f k a0_0).bind fun t417 => (if t417 = true then ((impl_Exact.f k a0_1).bind fun t418 => (if (t418.length : Int) > 0 then ((impl_PlainOk.f k a0_2).bind fun t421 => (if t421 = true then ((impl_areSums.f k l0_3).bind fun t422 => (some t422)) else (some false))) else (some false))) else (some false))
theorem impl_PackOk.mono : ∀ a0 a1 a2 a3 a4 a5 k, LeO (impl_PackOk.f k a0 a1 a2 a3 a4 a5) (impl_PackOk.f (k + 1) a0 a1 a2 a3 a4 a5) := by
 intro a0 a1 a2 a3 a4 a5 k
 unfold impl_PackOk.f
 repeat' first
   | (with_reducible exact impl_Exact.mono _ _)
   | (with_reducible exact impl_NameOk.mono _ _)
   | (with_reducible exact impl_PlainOk.mono _ _)
   | (with_reducible exact impl_areSums.mono _ _)
   | (with_reducible exact LeO.refl _)
   | (with_reducible exact LeO.none _)
   | (with_reducible refine LeO.ite ?_ ?_)
   | (with_reducible refine LeO.bind ?_ (fun _ => ?_))
   | exact impl_Exact.mono _ _
   | exact impl_NameOk.mono _ _
   | exact impl_PlainOk.mono _ _
   | exact impl_areSums.mono _ _
   | exact LeO.none _
   | refine LeO.ite ?_ ?_
   | refine LeO.bind ?_ (fun _ => ?_)
def impl_Find_1.f (key : ByteArray) (a0_0 : ByteArray) (a0_1 : ByteArray) (a0_2 : ByteArray) (l0_3 : List (S51)) (a0_4 : Bool) (l0_5 : List ByteArray) : Option (Bool) := (impl_KeyOf.f a0_0 a0_1 a0_2 l0_3 a0_4 l0_5).bind fun t425 => (some (t425.toList == key.toList))
def impl_Pack__impl_Find_1.l0 (key : ByteArray) : Nat → List (S44) → Int → Int → Option (Int)
 | 0, _, _, _ => none
 | k + 1, x0, x7, x8 => if x8 < x7 then (if 0 ≤ x8 then (if x8 < (x0.length : Int) then ((impl_Find_1.f key ((rd_T44 x0 x8).f0) ((rd_T44 x0 x8).f1) ((rd_T44 x0 x8).f2) ((rd_T44 x0 x8).f3) ((rd_T44 x0 x8).f4) ((rd_T44 x0 x8).f5)).bind fun t427 => (if t427 = true then (some x8) else (impl_Pack__impl_Find_1.l0 key k x0 x7 (wrap64 (x8 + 1))))) else (none)) else (none)) else (some (-1))
def impl_Pack__impl_Find_1.f (key : ByteArray) (k : Nat) (l0 : List (S44))  : Option (Int) := impl_Pack__impl_Find_1.l0 key k l0 (l0.length : Int) 0
theorem impl_Pack__impl_Find_1.mono_l (key : ByteArray) : ∀ k, (∀ y0 y1 y2, LeO (impl_Pack__impl_Find_1.l0 key k y0 y1 y2) (impl_Pack__impl_Find_1.l0 key (k + 1) y0 y1 y2))
 | 0 => fun _ _ _ r h => by simp [impl_Pack__impl_Find_1.l0] at h
 | k + 1 => by
  have ih0 := impl_Pack__impl_Find_1.mono_l key k
  ·intro y0 y1 y2
   unfold impl_Pack__impl_Find_1.l0
   repeat' first
   | (with_reducible exact ih0 _ _ _)
   | (with_reducible exact LeO.refl _)
   | (with_reducible exact LeO.none _)
   | (with_reducible refine LeO.ite ?_ ?_)
   | (with_reducible refine LeO.bind ?_ (fun _ => ?_))
   | exact ih0 _ _ _
   | exact LeO.none _
   | refine LeO.ite ?_ ?_
   | refine LeO.bind ?_ (fun _ => ?_)
theorem impl_Pack__impl_Find_1.mono (key : ByteArray) : ∀ a0 k, LeO (impl_Pack__impl_Find_1.f key k a0) (impl_Pack__impl_Find_1.f key (k + 1) a0) := by
 intro a0 k
 have ih0 := impl_Pack__impl_Find_1.mono_l key k
 unfold impl_Pack__impl_Find_1.f
 repeat' first
   | (with_reducible exact ih0 _ _ _)
   | (with_reducible exact LeO.refl _)
   | (with_reducible exact LeO.none _)
   | (with_reducible refine LeO.ite ?_ ?_)
   | (with_reducible refine LeO.bind ?_ (fun _ => ?_))
   | exact ih0 _ _ _
   | exact LeO.none _
   | refine LeO.ite ?_ ?_
   | refine LeO.bind ?_ (fun _ => ?_)
def impl_Find.f (k : Nat) (l0_0 : List ByteArray) (l0_1 : List (S44)) (a1 : ByteArray) : Option (Int) := (impl_Pack__impl_Find_1.f a1 k l0_1).bind fun t429 => (some t429)
theorem impl_Find.mono : ∀ a0 a1 a2 k, LeO (impl_Find.f k a0 a1 a2) (impl_Find.f (k + 1) a0 a1 a2) := by
 intro a0 a1 a2 k
 unfold impl_Find.f
 repeat' first
   | (with_reducible exact impl_Pack__impl_Find_1.mono _ _ _)
   | (with_reducible exact LeO.refl _)
   | (with_reducible exact LeO.none _)
   | (with_reducible refine LeO.ite ?_ ?_)
   | (with_reducible refine LeO.bind ?_ (fun _ => ?_))
   | exact impl_Pack__impl_Find_1.mono _ _ _
   | exact LeO.none _
   | refine LeO.ite ?_ ?_
   | refine LeO.bind ?_ (fun _ => ?_)
def impl_areKeys.l0 : Nat → List ByteArray → List ByteArray → Int → Int → List ByteArray → List (S44) → Option (Bool)
 | 0, _, _, _, _, _, _ => none
 | k + 1, x1, x7, x8, x9, x431000, x431001 => if x9 < x8 then (if 0 ≤ x9 then (if x9 < (x7.length : Int) then ((impl_Find.f k x431000 x431001 (rdOf ByteArray.empty x7 x9)).bind fun t432 => (if t432 < 0 then (some false) else (if x9 > 0 then (if 0 ≤ (wrap64 (x9 - 1)) then (if (wrap64 (x9 - 1)) < (x1.length : Int) then (if ((Op.bytesLess ((rdOf ByteArray.empty x1 (wrap64 (x9 - 1))).toList) ((rdOf ByteArray.empty x7 x9).toList)) = true) then (impl_areKeys.l0 k x1 x7 x8 (wrap64 (x9 + 1)) x431000 x431001) else (some false)) else (none)) else (none)) else (impl_areKeys.l0 k x1 x7 x8 (wrap64 (x9 + 1)) x431000 x431001)))) else (none)) else (none)) else (some true)
def impl_areKeys.f (k : Nat) (l0_0 : List ByteArray) (l0_1 : List (S44)) (l1 : List ByteArray) : Option (Bool) := impl_areKeys.l0 k l1 l1 (l1.length : Int) 0 l0_0 l0_1
theorem impl_areKeys.mono_l : ∀ k, (∀ y0 y1 y2 y3 y4 y5, LeO (impl_areKeys.l0 k y0 y1 y2 y3 y4 y5) (impl_areKeys.l0 (k + 1) y0 y1 y2 y3 y4 y5))
 | 0 => fun _ _ _ _ _ _ r h => by simp [impl_areKeys.l0] at h
 | k + 1 => by
  have ih0 := impl_areKeys.mono_l k
  ·intro y0 y1 y2 y3 y4 y5
   unfold impl_areKeys.l0
   repeat' first
   | (with_reducible exact ih0 _ _ _ _ _ _)
   | (with_reducible exact impl_Find.mono _ _ _ _)
   | (with_reducible exact LeO.refl _)
   | (with_reducible exact LeO.none _)
   | (with_reducible refine LeO.ite ?_ ?_)
   | (with_reducible refine LeO.bind ?_ (fun _ => ?_))
   | exact ih0 _ _ _ _ _ _
   | exact impl_Find.mono _ _ _ _
   | exact LeO.none _
   | refine LeO.ite ?_ ?_
   | refine LeO.bind ?_ (fun _ => ?_)
theorem impl_areKeys.mono : ∀ a0 a1 a2 k, LeO (impl_areKeys.f k a0 a1 a2) (impl_areKeys.f (k + 1) a0 a1 a2) := by
 intro a0 a1 a2 k
 have ih0 := impl_areKeys.mono_l k
 unfold impl_areKeys.f
 repeat' first
   | (with_reducible exact ih0 _ _ _ _ _ _)
   | (with_reducible exact impl_Find.mono _ _ _ _)
   | (with_reducible exact LeO.refl _)
   | (with_reducible exact LeO.none _)
   | (with_reducible refine LeO.ite ?_ ?_)
   | (with_reducible refine LeO.bind ?_ (fun _ => ?_))
   | exact ih0 _ _ _ _ _ _
   | exact impl_Find.mono _ _ _ _
   | exact LeO.none _
   | refine LeO.ite ?_ ?_
   | refine LeO.bind ?_ (fun _ => ?_)
def impl_GraphOk.l0 : Nat → List (S44) → Int → Int → List ByteArray → List (S44) → Option (Bool)
 | 0, _, _, _, _, _ => none
 | k + 1, x6, x7, x8, x435000, x435001 => if x8 < x7 then (if 0 ≤ x8 then (if x8 < (x6.length : Int) then ((impl_PackOk.f k ((rd_T44 x6 x8).f0) ((rd_T44 x6 x8).f1) ((rd_T44 x6 x8).f2) ((rd_T44 x6 x8).f3) ((rd_T44 x6 x8).f4) ((rd_T44 x6 x8).f5)).bind fun t438 => (if t438 = true then (if x8 > 0 then ((impl_KeyOf.f ((rd_T44 x6 x8).f0) ((rd_T44 x6 x8).f1) ((rd_T44 x6 x8).f2) ((rd_T44 x6 x8).f3) ((rd_T44 x6 x8).f4) ((rd_T44 x6 x8).f5)).bind fun t439 => (if 0 ≤ (wrap64 (x8 - 1)) then (if (wrap64 (x8 - 1)) < (x435001.length : Int) then ((impl_KeyOf.f ((rd_T44 x435001 (wrap64 (x8 - 1))).f0) ((rd_T44 x435001 (wrap64 (x8 - 1))).f1) ((rd_T44 x435001 (wrap64 (x8 - 1))).f2) ((rd_T44 x435001 (wrap64 (x8 - 1))).f3) ((rd_T44 x435001 (wrap64 (x8 - 1))).f4) ((rd_T44 x435001 (wrap64 (x8 - 1))).f5)).bind fun t441 => (if ((Op.bytesLess t441.toList t439.toList) = true) then ((impl_areKeys.f k x435000 x435001 ((rd_T44 x6 x8).f5)).bind fun t442 => (if t442 = true then (impl_GraphOk.l0 k x6 x7 (wrap64 (x8 + 1)) x435000 x435001) else (some false))) else (some false))) else (none)) else (none))) else ((impl_areKeys.f k x435000 x435001 ((rd_T44 x6 x8).f5)).bind fun t443 => (if t443 = true then (impl_GraphOk.l0 k x6 x7 (wrap64 (x8 + 1)) x435000 x435001) else (some false)))) else (some false))) else (none)) else (none)) else (if (x435001.length : Int) ≤ 40 then ((impl_areKeys.f k x435000 x435001 x435000).bind fun t435 => (some t435)) else (some false))
def impl_GraphOk.f (k : Nat) (l0_0 : List ByteArray) (l0_1 : List (S44)) : Option (Bool) := impl_GraphOk.l0 k l0_1 (l0_1.length : Int) 0 l0_0 l0_1
theorem impl_GraphOk.mono_l : ∀ k, (∀ y0 y1 y2 y3 y4, LeO (impl_GraphOk.l0 k y0 y1 y2 y3 y4) (impl_GraphOk.l0 (k + 1) y0 y1 y2 y3 y4))
 | 0 => fun _ _ _ _ _ r h => by simp [impl_GraphOk.l0] at h
 | k + 1 => by
  have ih0 := impl_GraphOk.mono_l k
  ·intro y0 y1 y2 y3 y4
   unfold impl_GraphOk.l0
   repeat' first
   | (with_reducible exact ih0 _ _ _ _ _)
   | (with_reducible exact impl_PackOk.mono _ _ _ _ _ _ _)
   | (with_reducible exact impl_areKeys.mono _ _ _ _)
   | (with_reducible exact LeO.refl _)
   | (with_reducible exact LeO.none _)
   | (with_reducible refine LeO.ite ?_ ?_)
   | (with_reducible refine LeO.bind ?_ (fun _ => ?_))
   | exact ih0 _ _ _ _ _
   | exact impl_PackOk.mono _ _ _ _ _ _ _
   | exact impl_areKeys.mono _ _ _ _
   | exact LeO.none _
   | refine LeO.ite ?_ ?_
   | refine LeO.bind ?_ (fun _ => ?_)
theorem impl_GraphOk.mono : ∀ a0 a1 k, LeO (impl_GraphOk.f k a0 a1) (impl_GraphOk.f (k + 1) a0 a1) := by
 intro a0 a1 k
 have ih0 := impl_GraphOk.mono_l k
 unfold impl_GraphOk.f
 repeat' first
   | (with_reducible exact ih0 _ _ _ _ _)
   | (with_reducible exact impl_PackOk.mono _ _ _ _ _ _ _)
   | (with_reducible exact impl_areKeys.mono _ _ _ _)
   | (with_reducible exact LeO.refl _)
   | (with_reducible exact LeO.none _)
   | (with_reducible refine LeO.ite ?_ ?_)
   | (with_reducible refine LeO.bind ?_ (fun _ => ?_))
   | exact ih0 _ _ _ _ _
   | exact impl_PackOk.mono _ _ _ _ _ _ _
   | exact impl_areKeys.mono _ _ _ _
   | exact LeO.none _
   | refine LeO.ite ?_ ?_
   | refine LeO.bind ?_ (fun _ => ?_)
def impl_PutHex.l0 : Nat → ByteArray → List Int → Int → Int → Option (ByteArray)
 | 0, _, _, _, _ => none
 | k + 1, x0, x3, x7, x8 => if x8 < x7 then (if 0 ≤ x8 then (if x8 < (x0.size : Int) then (if 0 ≤ ((bt x0 x8) / 16) then (if ((bt x0 x8) / 16) < 16 then (if 0 ≤ (Go.bits .and .u8 (bt x0 x8) 15) then (if (Go.bits .and .u8 (bt x0 x8) 15) < 16 then ((some (([bt (⟨#[48, 49, 50, 51, 52, 53, 54, 55, 56, 57, 97, 98, 99, 100, 101, 102]⟩ : ByteArray) ((bt x0 x8) / 16), bt (⟨#[48, 49, 50, 51, 52, 53, 54, 55, 56, 57, 97, 98, 99, 100, 101, 102]⟩ : ByteArray) (Go.bits .and .u8 (bt x0 x8) 15)] : List Int) : List Int)).bind fun y488 => (if x3.length + y488.length < 140737488355328 then (impl_PutHex.l0 k x0 (x3 ++ y488) x7 (wrap64 (x8 + 1))) else (none))) else (none)) else (none)) else (none)) else (none)) else (none)) else (none)) else (some (strOfNums x3))
def impl_PutHex.f (k : Nat) (a0 : ByteArray) : Option (ByteArray) := impl_PutHex.l0 k a0 (([] : List Int)) (a0.size : Int) 0
theorem impl_PutHex.mono_l : ∀ k, (∀ y0 y1 y2 y3, LeO (impl_PutHex.l0 k y0 y1 y2 y3) (impl_PutHex.l0 (k + 1) y0 y1 y2 y3))
 | 0 => fun _ _ _ _ r h => by simp [impl_PutHex.l0] at h
 | k + 1 => by
  have ih0 := impl_PutHex.mono_l k
  ·intro y0 y1 y2 y3
   unfold impl_PutHex.l0
   repeat' first
   | (with_reducible exact ih0 _ _ _ _)
   | (with_reducible exact LeO.refl _)
   | (with_reducible exact LeO.none _)
   | (with_reducible refine LeO.ite ?_ ?_)
   | (with_reducible refine LeO.bind ?_ (fun _ => ?_))
   | exact ih0 _ _ _ _
   | exact LeO.none _
   | refine LeO.ite ?_ ?_
   | refine LeO.bind ?_ (fun _ => ?_)
theorem impl_PutHex.mono : ∀ a0 k, LeO (impl_PutHex.f k a0) (impl_PutHex.f (k + 1) a0) := by
 intro a0 k
 have ih0 := impl_PutHex.mono_l k
 unfold impl_PutHex.f
 repeat' first
   | (with_reducible exact ih0 _ _ _ _)
   | (with_reducible exact LeO.refl _)
   | (with_reducible exact LeO.none _)
   | (with_reducible refine LeO.ite ?_ ?_)
   | (with_reducible refine LeO.bind ?_ (fun _ => ?_))
   | exact ih0 _ _ _ _
   | exact LeO.none _
   | refine LeO.ite ?_ ?_
   | refine LeO.bind ?_ (fun _ => ?_)
mutual
def impl_GraphText.l0 : Nat → ByteArray → List (S44) → Int → Int → Option (ByteArray)
 | 0, _, _, _, _ => none
 | k + 1, x3, x19, x20, x21 => if x21 < x20 then (if 0 ≤ x21 then (if x21 < (x19.length : Int) then ((impl_KeyOf.f ((rd_T44 x19 x21).f0) ((rd_T44 x19 x21).f1) ((rd_T44 x19 x21).f2) ((rd_T44 x19 x21).f3) ((rd_T44 x19 x21).f4) ((rd_T44 x19 x21).f5)).bind fun t527 => ((some (([t527] : List ByteArray) : List ByteArray)).bind fun y528 => (if (rd_T44 x19 x21).f4 = true then (if y528.length < 8796093022208 then (impl_GraphText.j1 k x3 (y528 ++ [(⟨#[100, 101, 118]⟩ : ByteArray)]) x19 x20 x21 ((rd_T44 x19 x21).f0) ((rd_T44 x19 x21).f1) ((rd_T44 x19 x21).f2) ((rd_T44 x19 x21).f3) ((rd_T44 x19 x21).f4) ((rd_T44 x19 x21).f5)) else (none)) else (impl_GraphText.j1 k x3 y528 x19 x20 x21 ((rd_T44 x19 x21).f0) ((rd_T44 x19 x21).f1) ((rd_T44 x19 x21).f2) ((rd_T44 x19 x21).f3) ((rd_T44 x19 x21).f4) ((rd_T44 x19 x21).f5))))) else (none)) else (none)) else (some x3)
def impl_GraphText.j1 : Nat → ByteArray → List ByteArray → List (S44) → Int → Int → ByteArray → ByteArray → ByteArray → List (S51) → Bool → List ByteArray → Option (ByteArray)
 | 0, _, _, _, _, _, _, _, _, _, _, _ => none
 | k + 1, x3, x6, x19, x20, x21, x527000, x527001, x527002, x527003, x527004, x527005 => impl_GraphText.l1 k x3 x6 x19 x20 x21 x527003 (x527003.length : Int) 0 x527000 x527001 x527002 x527003 x527004 x527005
def impl_GraphText.l1 : Nat → ByteArray → List ByteArray → List (S44) → Int → Int → List (S51) → Int → Int → ByteArray → ByteArray → ByteArray → List (S51) → Bool → List ByteArray → Option (ByteArray)
 | 0, _, _, _, _, _, _, _, _, _, _, _, _, _, _ => none
 | k + 1, x3, x6, x19, x20, x21, x34, x35, x36, x527000, x527001, x527002, x527003, x527004, x527005 => if x36 < x35 then (if 0 ≤ x36 then (if x36 < (x34.length : Int) then (if ((rd_T51 x34 x36).f0).size + 1 ≤ 9223372036854775807 then (if 0 ≤ 4 then (if 4 ≤ (((rd_T51 x34 x36).f1).size : Int) then ((impl_PutHex.f k (((rd_T51 x34 x36).f1).extract 0 4)).bind fun t536 => (if (((rd_T51 x34 x36).f0) ++ (⟨#[58]⟩ : ByteArray)).size + t536.size ≤ 9223372036854775807 then (if x6.length < 8796093022208 then (impl_GraphText.l1 k x3 (x6 ++ [(((rd_T51 x34 x36).f0) ++ (⟨#[58]⟩ : ByteArray)) ++ t536]) x19 x20 x21 x34 x35 (wrap64 (x36 + 1)) x527000 x527001 x527002 x527003 x527004 x527005) else (none)) else (none))) else (none)) else (none)) else (none)) else (none)) else (none)) else (if x527002.toList = ([] : List UInt8) then (if (x527005.length : Int) > 0 then (if x6.length < 8796093022208 then ((some (x6 ++ [(⟨#[45, 62]⟩ : ByteArray)] : List ByteArray)).bind fun y540 => (if y540.length + x527005.length < 8796093022208 then ((strings_Join.f (y540 ++ x527005) (⟨#[32]⟩ : ByteArray)).bind fun t546 => (if t546.size + 1 ≤ 9223372036854775807 then (if x3.size + (t546 ++ (⟨#[10]⟩ : ByteArray)).size ≤ 9223372036854775807 then (impl_GraphText.l0 k (x3 ++ (t546 ++ (⟨#[10]⟩ : ByteArray))) x19 x20 (wrap64 (x21 + 1))) else (none)) else (none))) else (none))) else (none)) else ((strings_Join.f x6 (⟨#[32]⟩ : ByteArray)).bind fun t547 => (if t547.size + 1 ≤ 9223372036854775807 then (if x3.size + (t547 ++ (⟨#[10]⟩ : ByteArray)).size ≤ 9223372036854775807 then (impl_GraphText.l0 k (x3 ++ (t547 ++ (⟨#[10]⟩ : ByteArray))) x19 x20 (wrap64 (x21 + 1))) else (none)) else (none)))) else (if x6.length < 8796093022208 then ((some (x6 ++ [x527002] : List ByteArray)).bind fun y548 => (if (x527005.length : Int) > 0 then (if y548.length < 8796093022208 then ((some (y548 ++ [(⟨#[45, 62]⟩ : ByteArray)] : List ByteArray)).bind fun y551 => (if y551.length + x527005.length < 8796093022208 then ((strings_Join.f (y551 ++ x527005) (⟨#[32]⟩ : ByteArray)).bind fun t557 => (if t557.size + 1 ≤ 9223372036854775807 then (if x3.size + (t557 ++ (⟨#[10]⟩ : ByteArray)).size ≤ 9223372036854775807 then (impl_GraphText.l0 k (x3 ++ (t557 ++ (⟨#[10]⟩ : ByteArray))) x19 x20 (wrap64 (x21 + 1))) else (none)) else (none))) else (none))) else (none)) else ((strings_Join.f y548 (⟨#[32]⟩ : ByteArray)).bind fun t558 => (if t558.size + 1 ≤ 9223372036854775807 then (if x3.size + (t558 ++ (⟨#[10]⟩ : ByteArray)).size ≤ 9223372036854775807 then (impl_GraphText.l0 k (x3 ++ (t558 ++ (⟨#[10]⟩ : ByteArray))) x19 x20 (wrap64 (x21 + 1))) else (none)) else (none))))) else (none)))
end
def impl_GraphText.f (k : Nat) (l0_0 : List ByteArray) (l0_1 : List (S44)) : Option (ByteArray) := (impl_GraphOk.f k l0_0 l0_1).bind fun t517 => (if t517 = true then ((some (([(⟨#[116, 111, 112]⟩ : ByteArray)] : List ByteArray) : List ByteArray)).bind fun y518 => (if y518.length + l0_0.length < 8796093022208 then ((strings_Join.f (y518 ++ l0_0) (⟨#[32]⟩ : ByteArray)).bind fun t524 => (if t524.size + 1 ≤ 9223372036854775807 then (impl_GraphText.l0 k (t524 ++ (⟨#[10]⟩ : ByteArray)) l0_1 (l0_1.length : Int) 0) else (none))) else (none))) else (some (⟨#[]⟩ : ByteArray)))
theorem impl_GraphText.mono_l : ∀ k, (∀ y0 y1 y2 y3, LeO (impl_GraphText.l0 k y0 y1 y2 y3) (impl_GraphText.l0 (k + 1) y0 y1 y2 y3)) ∧ (∀ y0 y1 y2 y3 y4 y5 y6 y7 y8 y9 y10, LeO (impl_GraphText.j1 k y0 y1 y2 y3 y4 y5 y6 y7 y8 y9 y10) (impl_GraphText.j1 (k + 1) y0 y1 y2 y3 y4 y5 y6 y7 y8 y9 y10)) ∧ (∀ y0 y1 y2 y3 y4 y5 y6 y7 y8 y9 y10 y11 y12 y13, LeO (impl_GraphText.l1 k y0 y1 y2 y3 y4 y5 y6 y7 y8 y9 y10 y11 y12 y13) (impl_GraphText.l1 (k + 1) y0 y1 y2 y3 y4 y5 y6 y7 y8 y9 y10 y11 y12 y13))
 | 0 => ⟨fun _ _ _ _ r h => by simp [impl_GraphText.l0] at h, fun _ _ _ _ _ _ _ _ _ _ _ r h => by simp [impl_GraphText.j1] at h, fun _ _ _ _ _ _ _ _ _ _ _ _ _ _ r h => by simp [impl_GraphText.l1] at h⟩
 | k + 1 => by
  obtain ⟨ih0, ih1, ih2⟩ := impl_GraphText.mono_l k
  refine ⟨?_, ?_, ?_⟩
  ·intro y0 y1 y2 y3
   unfold impl_GraphText.l0
   repeat' first
   | (with_reducible exact ih0 _ _ _ _)
   | (with_reducible exact ih1 _ _ _ _ _ _ _ _ _ _ _)
   | (with_reducible exact ih2 _ _ _ _ _ _ _ _ _ _ _ _ _ _)
   | (with_reducible exact impl_GraphOk.mono _ _ _)
   | (with_reducible exact impl_PutHex.mono _ _)
   | (with_reducible exact LeO.refl _)
   | (with_reducible exact LeO.none _)
   | (with_reducible refine LeO.ite ?_ ?_)
   | (with_reducible refine LeO.bind ?_ (fun _ => ?_))
   | exact ih0 _ _ _ _
   | exact ih1 _ _ _ _ _ _ _ _ _ _ _
   | exact ih2 _ _ _ _ _ _ _ _ _ _ _ _ _ _
   | exact impl_GraphOk.mono _ _ _
   | exact impl_PutHex.mono _ _
   | exact LeO.none _
   | refine LeO.ite ?_ ?_
   | refine LeO.bind ?_ (fun _ => ?_)
  ·intro y0 y1 y2 y3 y4 y5 y6 y7 y8 y9 y10
   unfold impl_GraphText.j1
   repeat' first
   | (with_reducible exact ih0 _ _ _ _)
   | (with_reducible exact ih1 _ _ _ _ _ _ _ _ _ _ _)
   | (with_reducible exact ih2 _ _ _ _ _ _ _ _ _ _ _ _ _ _)
   | (with_reducible exact impl_GraphOk.mono _ _ _)
   | (with_reducible exact impl_PutHex.mono _ _)
   | (with_reducible exact LeO.refl _)
   | (with_reducible exact LeO.none _)
   | (with_reducible refine LeO.ite ?_ ?_)
   | (with_reducible refine LeO.bind ?_ (fun _ => ?_))
   | exact ih0 _ _ _ _
   | exact ih1 _ _ _ _ _ _ _ _ _ _ _
   | exact ih2 _ _ _ _ _ _ _ _ _ _ _ _ _ _
   | exact impl_GraphOk.mono _ _ _
   | exact impl_PutHex.mono _ _
   | exact LeO.none _
   | refine LeO.ite ?_ ?_
   | refine LeO.bind ?_ (fun _ => ?_)
  ·intro y0 y1 y2 y3 y4 y5 y6 y7 y8 y9 y10 y11 y12 y13
   unfold impl_GraphText.l1
   repeat' first
   | (with_reducible exact ih0 _ _ _ _)
   | (with_reducible exact ih1 _ _ _ _ _ _ _ _ _ _ _)
   | (with_reducible exact ih2 _ _ _ _ _ _ _ _ _ _ _ _ _ _)
   | (with_reducible exact impl_GraphOk.mono _ _ _)
   | (with_reducible exact impl_PutHex.mono _ _)
   | (with_reducible exact LeO.refl _)
   | (with_reducible exact LeO.none _)
   | (with_reducible refine LeO.ite ?_ ?_)
   | (with_reducible refine LeO.bind ?_ (fun _ => ?_))
   | exact ih0 _ _ _ _
   | exact ih1 _ _ _ _ _ _ _ _ _ _ _
   | exact ih2 _ _ _ _ _ _ _ _ _ _ _ _ _ _
   | exact impl_GraphOk.mono _ _ _
   | exact impl_PutHex.mono _ _
   | exact LeO.none _
   | refine LeO.ite ?_ ?_
   | refine LeO.bind ?_ (fun _ => ?_)
theorem impl_GraphText.mono : ∀ a0 a1 k, LeO (impl_GraphText.f k a0 a1) (impl_GraphText.f (k + 1) a0 a1) := by
 intro a0 a1 k
 obtain ⟨ih0, ih1, ih2⟩ := impl_GraphText.mono_l k
 unfold impl_GraphText.f
 repeat' first
   | (with_reducible exact ih0 _ _ _ _)
   | (with_reducible exact ih1 _ _ _ _ _ _ _ _ _ _ _)
   | (with_reducible exact ih2 _ _ _ _ _ _ _ _ _ _ _ _ _ _)
   | (with_reducible exact impl_GraphOk.mono _ _ _)
   | (with_reducible exact impl_PutHex.mono _ _)
   | (with_reducible exact LeO.refl _)
   | (with_reducible exact LeO.none _)
   | (with_reducible refine LeO.ite ?_ ?_)
   | (with_reducible refine LeO.bind ?_ (fun _ => ?_))
   | exact ih0 _ _ _ _
   | exact ih1 _ _ _ _ _ _ _ _ _ _ _
   | exact ih2 _ _ _ _ _ _ _ _ _ _ _ _ _ _
   | exact impl_GraphOk.mono _ _ _
   | exact impl_PutHex.mono _ _
   | exact LeO.none _
   | refine LeO.ite ?_ ?_
   | refine LeO.bind ?_ (fun _ => ?_)
def strings_Compare.f (a0 : ByteArray) (a1 : ByteArray) : Option Int := some (Lib.compareBytes a0.data.toList a1.data.toList)
theorem strings_Compare.calls (a0 : ByteArray) (a1 : ByteArray) (r : Int) (w : World) (h : strings_Compare.f a0 a1 = some r) :
  Calls Tryz.prog 140 #[.string a0, .string a1] w fun e w' => e = .returned (.int .i64 r) ∧ Drawn0 w w' := by
 obtain rfl := Option.some.inj h
 exact (Tryz.strings_Compare a0 a1 w).mono fun e w' ⟨h1, h2⟩ => ⟨h1, h2 ▸ Drawn0.refl _⟩
def strings_TrimLeft.f (a0 : ByteArray) (a1 : ByteArray) : Option ByteArray := if h : a1.size = 1 then (if (a1[0]'(by omega)).toNat < 128 ∧ a0.size ≤ 9223372036854775807 then some ⟨(Lib.trimLeftB a0.data.toList (a1[0]'(by omega))).toArray⟩ else none) else none
theorem strings_TrimLeft.calls (a0 : ByteArray) (a1 : ByteArray) (r : ByteArray) (w : World) (h : strings_TrimLeft.f a0 a1 = some r) :
  Calls Tryz.prog 139 #[.string a0, .string a1] w fun e w' => e = .returned (.string r) ∧ Drawn0 w w' := by
 unfold strings_TrimLeft.f at h
 split at h
 ·rename_i h1
  split at h
  ·rename_i h2
   obtain rfl := Option.some.inj h
   obtain ⟨c, rfl⟩ := Lib.one_byte a1 h1
   exact (Tryz.strings_TrimLeft_one a0 c h2.1 w).mono fun e w' ⟨h1, h2⟩ => ⟨h1, h2 ▸ Drawn0.refl _⟩
  ·cases h
 ·cases h
end Go.Proofs.YteldcmniknocpaaGreatDoor.G

end
