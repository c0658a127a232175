/- A part of the proof that the law FnSort answers true at every input that its row speaks of. Conditions: the row's own. -/
import Derived.Test.YtcfeihimmboghaaGreatDoorKFnSort0
import Derived.Lib.SmallJoins
import Derived.Test.YtcfeihimmboghaaGreatDoorShelf
import Derived.Laws.Rows
import Derived.Lib.SplitLaws
section
namespace Go.Proofs.YtcfeihimmboghaaGreatDoor.G
open Go.RowKit Go.Proofs.YtcfeihimmboghaaGreatDoorW.PrintWords Go.Proofs.YtcfeihimmboghaaGreatDoorW.PrintLast Go.Proofs.YtcfeihimmboghaaGreatDoorW.PrintMore
attribute [local go_sem] max2_int min2_int max_two min_two max_three min_three max_four min_four
attribute [local go_sem high] Go.Proofs.YtcfeihimmboghaaGreatDoor.G.str_gtr Go.Proofs.YtcfeihimmboghaaGreatDoor.G.str_leq Go.Proofs.YtcfeihimmboghaaGreatDoor.G.str_geq
set_option linter.unusedVariables false
set_option linter.unusedSimpArgs false
def impl_ReadDec.f (a0 : ByteArray) : Option Int := if a0.size ≤ 281474976710656 then (match Lib.atoiAll a0.data.toList with | .ok n => (impl_within.f n 0 999999999).bind fun t => if t = true then (impl_DecText.f n).bind fun s => if s.toList = a0.toList then some n else some (-1) else some (-1) | _ => some (-1)) else none
set_option maxHeartbeats 8000000 in
set_option maxRecDepth 100000 in
theorem impl_ReadDec.calls (a0 : ByteArray) (r : Int) (w : World) (hGE : Glob FactE w) (hGT : Glob FactT w) (h : impl_ReadDec.f a0 = some r) :
  Calls Tryz.prog 53 #[.string a0] w fun e w' => e = .returned (.int .i64 r) ∧ Below w.heap.size w w' := by
 have HB := Aside0.mk (Below.refl w.heap.size w)
 have HGT := Aside0.mk hGT
 clear hGT
 unfold impl_ReadDec.f at h
 by_cases hc : a0.size ≤ 281474976710656
 case neg => rw [if_neg hc] at h; cases h
 rw [if_pos hc] at h
 obtain ⟨⟨t1, p1, e1⟩, ⟨t2, p2, e2⟩⟩ := FactE.here hGE
 clear hGE
 cases ha : Lib.atoiAll a0.data.toList
 ·rename_i n
  rw [ha] at h
  have C : Calls Tryz.prog 125 #[.string a0] w fun e w' => e = .returned (.tuple #[.int .i64 n, .nilIface]) ∧ Below w.heap.size w w' := by
   refine (Tryz.strconv_Atoi_ok a0 (by omega) n ha w).mono fun e w' ⟨h1, h2⟩ => ⟨h1, ?_⟩
   rcases h2 with rfl | ⟨t, rfl⟩
   ·exact Below.refl _ _
   ·exact Go.Joins.below_bytesWorld _ w _ t (Nat.le_refl _)
  replace C := Aside0.mk C
  clear ha e1 e2
  have H : ((impl_within.f n 0 999999999).bind fun t => if t = true then (impl_DecText.f n).bind fun s => if s.toList = a0.toList then some n else some (-1) else some (-1)) = some r := h
  clear h
  replace H := Option.bind_eq_some_iff.mp H
  obtain ⟨tw, Aw0, H⟩ := H
  have Aw := Aside0.mk Aw0
  clear Aw0
  replace H : (if tw = true then (impl_DecText.f n).bind fun s => if s.toList = a0.toList then some n else some (-1) else some (-1)) = some r := H
  cases tw with
  | false =>
   rw [if_neg (by decide)] at H
   obtain rfl := Option.some.inj H
   go_enter Tryz.func53, Tryz.ntmps53
   go_wp2_with (first | (go_at_call 125; (with_reducible refine C.out.mono ?_); rintro e w' ⟨rfl, hb⟩; have n0_ := Aside0.mk (below_step (by repeat (first | (with_reducible first | exact HB.out | apply below_alloc | apply pw_below_drewN | apply below_drew1) | exact HB.out)) hb); clear HB; have HB := n0_; clear n0_; (try clear hb)) | (go_at_call 102; (with_reducible refine (impl_within.calls n 0 999999999 false _ Aw.out).mono ?_); rintro e w' ⟨rfl, ⟨nd, rfl⟩⟩))
   go_ret
   exact ⟨by first | rfl | (simp; done), by repeat (first | (with_reducible first | exact HB.out | apply below_alloc | apply pw_below_drewN | apply below_drew1) | exact HB.out)⟩
  | true =>
   rw [if_pos rfl] at H
   replace H := Option.bind_eq_some_iff.mp H
   obtain ⟨ts, As0, H⟩ := H
   have As := Aside0.mk As0
   clear As0
   replace H : (if ts.toList = a0.toList then some n else some (-1)) = some r := H
   by_cases c4 : ts.toList = a0.toList
   ·rw [if_pos c4] at H
    have c4b0 : (ts.toList == a0.toList) = true := beq_iff_eq.mpr c4
    have c4b1 : (ts.toList != a0.toList) = false := bne_eq_false_iff_eq.mpr c4
    clear c4
    obtain rfl := Option.some.inj H
    go_enter Tryz.func53, Tryz.ntmps53
    go_wp2_with (first | (go_at_call 125; (with_reducible refine C.out.mono ?_); rintro e w' ⟨rfl, hb⟩; have n0_ := Aside0.mk (below_step (by repeat (first | (with_reducible first | exact HB.out | apply below_alloc | apply pw_below_drewN | apply below_drew1) | exact HB.out)) hb); clear HB; have HB := n0_; clear n0_; (try clear hb)) | (go_at_call 102; (with_reducible refine (impl_within.calls n 0 999999999 true _ Aw.out).mono ?_); rintro e w' ⟨rfl, ⟨nd, rfl⟩⟩) | (go_at_call 51; (with_reducible refine (impl_DecText.calls n ts _ ?side1 As.out).mono ?_); (case side1 => exact Glob.below HGT.out (by repeat (first | (with_reducible first | exact HB.out | apply below_alloc | apply pw_below_drewN | apply below_drew1) | exact HB.out))); rintro e w3 ⟨rfl, hb⟩; have n0_ := Aside0.mk (below_step (by repeat (first | (with_reducible first | exact HB.out | apply below_alloc | apply pw_below_drewN | apply below_drew1) | exact HB.out)) hb); clear HB; have HB := n0_; clear n0_; (try clear hb)))
    go_ret
    exact ⟨by first | rfl | (simp; done), by repeat (first | (with_reducible first | exact HB.out | apply below_alloc | apply pw_below_drewN | apply below_drew1) | exact HB.out)⟩
   ·rw [if_neg c4] at H
    have c4b0 : (ts.toList == a0.toList) = false := beq_eq_false_iff_ne.mpr c4
    have c4b1 : (ts.toList != a0.toList) = true := bne_iff_ne.mpr c4
    clear c4
    obtain rfl := Option.some.inj H
    go_enter Tryz.func53, Tryz.ntmps53
    go_wp2_with (first | (go_at_call 125; (with_reducible refine C.out.mono ?_); rintro e w' ⟨rfl, hb⟩; have n0_ := Aside0.mk (below_step (by repeat (first | (with_reducible first | exact HB.out | apply below_alloc | apply pw_below_drewN | apply below_drew1) | exact HB.out)) hb); clear HB; have HB := n0_; clear n0_; (try clear hb)) | (go_at_call 102; (with_reducible refine (impl_within.calls n 0 999999999 true _ Aw.out).mono ?_); rintro e w' ⟨rfl, ⟨nd, rfl⟩⟩) | (go_at_call 51; (with_reducible refine (impl_DecText.calls n ts _ ?side1 As.out).mono ?_); (case side1 => exact Glob.below HGT.out (by repeat (first | (with_reducible first | exact HB.out | apply below_alloc | apply pw_below_drewN | apply below_drew1) | exact HB.out))); rintro e w3 ⟨rfl, hb⟩; have n0_ := Aside0.mk (below_step (by repeat (first | (with_reducible first | exact HB.out | apply below_alloc | apply pw_below_drewN | apply below_drew1) | exact HB.out)) hb); clear HB; have HB := n0_; clear n0_; (try clear hb)))
    go_ret
    exact ⟨by first | rfl | (simp; done), by repeat (first | (with_reducible first | exact HB.out | apply below_alloc | apply pw_below_drewN | apply below_drew1) | exact HB.out)⟩
 ·rw [ha] at h
  obtain rfl := Option.some.inj h
  have C0 := Any.strconv_Atoi_syntax_var Tryz.laysC172 a0 hc ha t1 p1 w e1
  have C1 : Calls Tryz.prog 125 #[.string a0] w fun e w' => ∃ N t, e = .returned (.tuple #[.int .i64 0, .iface t (.pointer (some ⟨N, 0, none⟩))]) ∧ Below w.heap.size w w' :=
   (show Calls Tryz.prog 125 _ _ _ from C0).mono fun e w' ⟨N, h1, _, _, h4⟩ => ⟨N, _, h1, h4⟩
  have C := Aside0.mk C1
  clear C0 C1
  clear ha e1 e2 h
  go_enter Tryz.func53, Tryz.ntmps53
  go_wp2_with (go_at_call 125; (with_reducible refine C.out.mono ?_); rintro e w' ⟨NE, TE, rfl, hb⟩; have n0_ := Aside0.mk (below_step (by repeat (first | (with_reducible first | exact HB.out | apply below_alloc | apply pw_below_drewN | apply below_drew1) | exact HB.out)) hb); clear HB; have HB := n0_; clear n0_; (try clear hb))
  go_ret
  exact ⟨by first | rfl | (simp; done), by repeat (first | (with_reducible first | exact HB.out | apply below_alloc | apply pw_below_drewN | apply below_drew1) | exact HB.out)⟩
 ·rw [ha] at h
  obtain rfl := Option.some.inj h
  have C := Aside0.mk (Tryz.strconv_Atoi_range_var a0 hc ha t2 p2 w e2)
  clear ha e1 e2 h
  go_enter Tryz.func53, Tryz.ntmps53
  go_wp2_with (go_at_call 125; (with_reducible refine C.out.mono ?_); rintro e w' ⟨NE, rfl, -, -, hb⟩; have n0_ := Aside0.mk (below_step (by repeat (first | (with_reducible first | exact HB.out | apply below_alloc | apply pw_below_drewN | apply below_drew1) | exact HB.out)) hb); clear HB; have HB := n0_; clear n0_; (try clear hb))
  go_ret
  exact ⟨by first | rfl | (simp; done), by repeat (first | (with_reducible first | exact HB.out | apply below_alloc | apply pw_below_drewN | apply below_drew1) | exact HB.out)⟩
def strings_Split.f (a0 : ByteArray) (a1 : ByteArray) : Option (List ByteArray) := if a0.size < 4294967281 ∧ 1 ≤ a1.size then some (Lib.splitB a1 0 (Lib.countB a0 a1) a0) else none
theorem strings_Split.calls (a0 : ByteArray) (a1 : ByteArray) (r : List ByteArray) (w : World) (hGM : Glob FactM w) (h : strings_Split.f a0 a1 = some r) :
  Calls Tryz.prog 94 #[.string a0, .string a1] w fun e w' => ∃ v0_ : Value, e = .returned (v0_) ∧ Kd.R Kd.string 9 w' w.heap.size (fun _ => True) v0_ r ∧ Below w.heap.size w w' := by
 unfold strings_Split.f at h
 by_cases hc : a0.size < 4294967281 ∧ 1 ≤ a1.size
 ·rw [if_pos hc] at h
  obtain rfl := Option.some.inj h
  obtain ⟨m, hm⟩ := FactM.here hGM
  have hl : (Lib.splitB a1 0 (Lib.countB a0 a1) a0).length = Lib.countB a0 a1 + 1 := Lib.splitB_all a1 hc.2 0 _ a0 rfl
  have hn : Lib.countB a0 a1 ≤ a0.size := Lib.countB_le a1 hc.2 a0.size a0 (Nat.le_refl _)
  refine (Tryz.strings_Split a0 a1 m w hc.1 hm hc.2).mono fun e w' ⟨h1, h2⟩ => ⟨_, h1, ?_, ?_⟩
  ·rw [h2]
   refine Kd.R_of_own ?_ (fun _ _ => trivial)
   rw [hl]
   refine ⟨by rw [encs, List.length_map, hl]; omega, Or.inr ⟨w.heap.size, _, _, rfl, Nat.le_refl _, heap_alloc_new w _, Nat.le_refl _, by unfold maxLen; omega, by rw [List.size_toArray, List.length_map, hl]; omega, ?_⟩⟩
   rw [List.take_of_length_le (by rw [List.length_map, hl]; omega)]
   rfl
  ·rw [h2]; exact (Below.refl _ w).alloc (Nat.le_refl _) _
 ·rw [if_neg hc] at h; cases h
def strings_Cut.f (a0 : ByteArray) (a1 : ByteArray) : Option (ByteArray × ByteArray × Bool) := if a0.size < 4294967281 then some (⟨(Lib.cut a0.data.toList a1.data.toList).1.toArray⟩, ⟨(Lib.cut a0.data.toList a1.data.toList).2.1.toArray⟩, (Lib.cut a0.data.toList a1.data.toList).2.2) else none
theorem strings_Cut.calls (a0 : ByteArray) (a1 : ByteArray) (r1 : ByteArray) (r2 : ByteArray) (r3 : Bool) (w : World) (hGM : Glob FactM w) (h : strings_Cut.f a0 a1 = some (r1, r2, r3)) :
  Calls Tryz.prog 153 #[.string a0, .string a1] w fun e w' => e = .returned (.tuple #[.string r1, .string r2, .bool r3]) ∧ Drawn0 w w' := by
 unfold strings_Cut.f at h
 by_cases hc : a0.size < 4294967281
 ·rw [if_pos hc] at h
  obtain ⟨rfl, rfl, rfl⟩ := by simpa using h
  obtain ⟨m, hm⟩ := FactM.here hGM
  exact (Tryz.strings_Cut a0 a1 m w hc hm).mono fun e w' ⟨h1, h2⟩ => ⟨h1, ⟨h2⟩⟩
 ·rw [if_neg hc] at h; cases h
def strings_Join.f (l0 : List ByteArray) (a1 : ByteArray) : Option ByteArray := if l0.length ≤ 140737488355328 ∧ (Lib.join (l0.map (·.data.toList)) a1.data.toList).length ≤ 140737488355328 then some ⟨(Lib.join (l0.map (·.data.toList)) a1.data.toList).toArray⟩ else none
theorem strings_Join.calls (A0 : Option Addr) (c0 : Nat) (l0 : List ByteArray) (a1 : ByteArray) (r : ByteArray) (w : World) (hr0 : Kd.C Kd.string w A0 l0.length l0) (hc0 : l0.length ≤ c0) (h : strings_Join.f l0 a1 = some r) :
  Calls Tryz.prog 91 #[.slice A0 l0.length c0, .string a1] w fun e w' => e = .returned (.string r) ∧ Below w.heap.size w w' := by
 unfold strings_Join.f at h
 by_cases hc : l0.length ≤ 140737488355328 ∧ (Lib.join (l0.map (·.data.toList)) a1.data.toList).length ≤ 140737488355328
 ·rw [if_pos hc] at h
  obtain rfl := Option.some.inj h
  cases l0 with
  | nil => exact (Tryz.strings_Join_none A0 c0 a1 w).mono fun e w' ⟨h1, h2⟩ => ⟨h1, h2 ▸ Below.refl _ _⟩
  | cons x l =>
   obtain ⟨ad, rfl, hcell⟩ := hr0.2.2 (by simp)
   have cell : ∀ (j : Nat) y, (x :: l)[j]? = some y → w.cell? (ad.add (j * 1 + 0)) = some (.string y) := by
    intro j y hy
    obtain ⟨cs, _, hk, hi⟩ := hcell j y hy
    have hk' : cs = [.string y] := hk
    subst hk'
    exact hi 0 _ rfl
   obtain ⟨b, o, sp⟩ := ad
   have hsp : sp = none := Go.Proofs.cell_spot (cell 0 x rfl)
   subst hsp
   have e : ∀ j, (⟨b, o, none⟩ : Addr).add (j * 1 + 0) = ⟨b, o + j, none⟩ := fun j => by unfold Addr.add; simp
   refine (Tryz.strings_Join b o c0 (x :: l) a1 w (fun j y hy => by rw [← e j]; exact cell j y hy) (World.block_lt_of_cell? w ⟨b, o + 0, none⟩ (by rw [← e 0]; exact cell 0 x rfl)) hc.1 hc0 hc.2).mono fun e w' ⟨h1, h2⟩ => ⟨h1, h2⟩
 ·rw [if_neg hc] at h; cases h
def impl_isDigit.f (a0 : Int) : Option (Bool) := if a0 ≥ 48 then (some (decide (a0 ≤ 57))) else (some false)
def impl_all__impl_isDigit.l0 : Nat → ByteArray → Int → Int → Option (Bool)
 | 0, _, _, _ => none
 | k + 1, x0, x7, x8 => if x8 < x7 then (if 0 ≤ x8 then (if x8 < (x0.size : Int) then ((impl_isDigit.f (bt x0 x8)).bind fun t185 => (if t185 = true then (impl_all__impl_isDigit.l0 k x0 x7 (wrap64 (x8 + 1))) else (some false))) else (none)) else (none)) else (some true)
def impl_all__impl_isDigit.f (k : Nat) (a0 : ByteArray)  : Option (Bool) := impl_all__impl_isDigit.l0 k a0 (a0.size : Int) 0
theorem impl_all__impl_isDigit.mono_l : ∀ k, (∀ y0 y1 y2, LeO (impl_all__impl_isDigit.l0 k y0 y1 y2) (impl_all__impl_isDigit.l0 (k + 1) y0 y1 y2))
 | 0 => fun _ _ _ r h => by simp [impl_all__impl_isDigit.l0] at h
 | k + 1 => by
  have ih0 := impl_all__impl_isDigit.mono_l k
  ·intro y0 y1 y2
   unfold impl_all__impl_isDigit.l0
   repeat' first
   | (with_reducible exact ih0 _ _ _)
   | (with_reducible exact LeO.refl _)
   | (with_reducible exact LeO.none _)
   | (with_reducible refine LeO.ite ?_ ?_)
   | (with_reducible refine LeO.bind ?_ (fun _ => ?_))
   | exact ih0 _ _ _
   | exact LeO.none _
   | refine LeO.ite ?_ ?_
   | refine LeO.bind ?_ (fun _ => ?_)
theorem impl_all__impl_isDigit.mono : ∀ a0 k, LeO (impl_all__impl_isDigit.f k a0) (impl_all__impl_isDigit.f (k + 1) a0) := by
 intro a0 k
 have ih0 := impl_all__impl_isDigit.mono_l k
 unfold impl_all__impl_isDigit.f
 repeat' first
   | (with_reducible exact ih0 _ _ _)
   | (with_reducible exact LeO.refl _)
   | (with_reducible exact LeO.none _)
   | (with_reducible refine LeO.ite ?_ ?_)
   | (with_reducible refine LeO.bind ?_ (fun _ => ?_))
   | exact ih0 _ _ _
   | exact LeO.none _
   | refine LeO.ite ?_ ?_
   | refine LeO.bind ?_ (fun _ => ?_)
def impl_isNumber.f (k : Nat) (a0 : ByteArray) : Option (Bool) := if a0.toList = ([] : List UInt8) then (some false) else ((impl_all__impl_isDigit.f k a0).bind fun t186 => (some t186))
theorem impl_isNumber.mono : ∀ a0 k, LeO (impl_isNumber.f k a0) (impl_isNumber.f (k + 1) a0) := by
 intro a0 k
 unfold impl_isNumber.f
 repeat' first
   | (with_reducible exact impl_all__impl_isDigit.mono _ _)
   | (with_reducible exact LeO.refl _)
   | (with_reducible exact LeO.none _)
   | (with_reducible refine LeO.ite ?_ ?_)
   | (with_reducible refine LeO.bind ?_ (fun _ => ?_))
   | exact impl_all__impl_isDigit.mono _ _
   | exact LeO.none _
   | refine LeO.ite ?_ ?_
   | refine LeO.bind ?_ (fun _ => ?_)
def impl_isLower.f (a0 : Int) : Option (Bool) := if a0 ≥ 97 then (some (decide (a0 ≤ 122))) else (some false)
def impl_isLetter.f (a0 : Int) : Option (Bool) := (impl_isLower.f a0).bind fun t187 => (if t187 = true then (some true) else (if a0 ≥ 65 then (some (decide (a0 ≤ 90))) else (some false)))
def impl_VersionOk_1.f (a0 : Int) : Option (Bool) := (impl_isLetter.f a0).bind fun t188 => (if t188 = true then (some true) else ((impl_isDigit.f a0).bind fun t189 => (if t189 = true then (some true) else (some (a0 == 45)))))
def impl_all__impl_VersionOk_1.l0 : Nat → ByteArray → Int → Int → Option (Bool)
 | 0, _, _, _ => none
 | k + 1, x0, x7, x8 => if x8 < x7 then (if 0 ≤ x8 then (if x8 < (x0.size : Int) then ((impl_VersionOk_1.f (bt x0 x8)).bind fun t190 => (if t190 = true then (impl_all__impl_VersionOk_1.l0 k x0 x7 (wrap64 (x8 + 1))) else (some false))) else (none)) else (none)) else (some true)
def impl_all__impl_VersionOk_1.f (k : Nat) (a0 : ByteArray)  : Option (Bool) := impl_all__impl_VersionOk_1.l0 k a0 (a0.size : Int) 0
theorem impl_all__impl_VersionOk_1.mono_l : ∀ k, (∀ y0 y1 y2, LeO (impl_all__impl_VersionOk_1.l0 k y0 y1 y2) (impl_all__impl_VersionOk_1.l0 (k + 1) y0 y1 y2))
 | 0 => fun _ _ _ r h => by simp [impl_all__impl_VersionOk_1.l0] at h
 | k + 1 => by
  have ih0 := impl_all__impl_VersionOk_1.mono_l k
  ·intro y0 y1 y2
   unfold impl_all__impl_VersionOk_1.l0
   repeat' first
   | (with_reducible exact ih0 _ _ _)
   | (with_reducible exact LeO.refl _)
   | (with_reducible exact LeO.none _)
   | (with_reducible refine LeO.ite ?_ ?_)
   | (with_reducible refine LeO.bind ?_ (fun _ => ?_))
   | exact ih0 _ _ _
   | exact LeO.none _
   | refine LeO.ite ?_ ?_
   | refine LeO.bind ?_ (fun _ => ?_)
theorem impl_all__impl_VersionOk_1.mono : ∀ a0 k, LeO (impl_all__impl_VersionOk_1.f k a0) (impl_all__impl_VersionOk_1.f (k + 1) a0) := by
 intro a0 k
 have ih0 := impl_all__impl_VersionOk_1.mono_l k
 unfold impl_all__impl_VersionOk_1.f
 repeat' first
   | (with_reducible exact ih0 _ _ _)
   | (with_reducible exact LeO.refl _)
   | (with_reducible exact LeO.none _)
   | (with_reducible refine LeO.ite ?_ ?_)
   | (with_reducible refine LeO.bind ?_ (fun _ => ?_))
   | exact ih0 _ _ _
   | exact LeO.none _
   | refine LeO.ite ?_ ?_
   | refine LeO.bind ?_ (fun _ => ?_)
mutual
def impl_VersionOk.l0 : Nat → List Int → Int → Int → Int → Int → Int → List ByteArray → Option (Bool)
 | 0, _, _, _, _, _, _, _ => none
 | k + 1, x13, x14, x15, x192000, x192001, x192002, x192003 => if x15 < x14 then (if 0 ≤ x15 then (if x15 < (x13.length : Int) then ((impl_within.f (rd x13 x15) 0 999999999).bind fun t196 => (if t196 = true then (impl_VersionOk.l0 k x13 x14 (wrap64 (x15 + 1)) x192000 x192001 x192002 x192003) else (some false))) else (none)) else (none)) else (impl_VersionOk.l1 k x192003 (x192003.length : Int) 0 x192000 x192001 x192002 x192003)
def impl_VersionOk.l1 : Nat → List ByteArray → Int → Int → Int → Int → Int → List ByteArray → Option (Bool)
 | 0, _, _, _, _, _, _, _ => none
 | k + 1, x24, x25, x26, x192000, x192001, x192002, x192003 => if x26 < x25 then (if 0 ≤ x26 then (if x26 < (x24.length : Int) then ((impl_within.f ((rdOf ByteArray.empty x24 x26).size : Int) 1 20).bind fun t198 => (if t198 = true then ((impl_all__impl_VersionOk_1.f k (rdOf ByteArray.empty x24 x26)).bind fun t199 => (if t199 = true then ((impl_isNumber.f k (rdOf ByteArray.empty x24 x26)).bind fun t200 => (if t200 = true then ((impl_ReadDec.f (rdOf ByteArray.empty x24 x26)).bind fun t201 => (if t201 < 0 then (some false) else (impl_VersionOk.l1 k x24 x25 (wrap64 (x26 + 1)) x192000 x192001 x192002 x192003))) else (impl_VersionOk.l1 k x24 x25 (wrap64 (x26 + 1)) x192000 x192001 x192002 x192003))) else (some false))) else (some false))) else (none)) else (none)) else (some (decide ((x192003.length : Int) ≤ 5)))
end
def impl_VersionOk.f (k : Nat) (a0_0 : Int) (a0_1 : Int) (a0_2 : Int) (l0_3 : List ByteArray) : Option (Bool) := (some (([a0_0, a0_1, a0_2] : List Int) : List Int)).bind fun y192 => (impl_VersionOk.l0 k y192 (y192.length : Int) 0 a0_0 a0_1 a0_2 l0_3)
theorem impl_VersionOk.mono_l : ∀ k, (∀ y0 y1 y2 y3 y4 y5 y6, LeO (impl_VersionOk.l0 k y0 y1 y2 y3 y4 y5 y6) (impl_VersionOk.l0 (k + 1) y0 y1 y2 y3 y4 y5 y6)) ∧ (∀ y0 y1 y2 y3 y4 y5 y6, LeO (impl_VersionOk.l1 k y0 y1 y2 y3 y4 y5 y6) (impl_VersionOk.l1 (k + 1) y0 y1 y2 y3 y4 y5 y6))
 | 0 => ⟨fun _ _ _ _ _ _ _ r h => by simp [impl_VersionOk.l0] at h, fun _ _ _ _ _ _ _ r h => by simp [impl_VersionOk.l1] at h⟩
 | k + 1 => by
  obtain ⟨ih0, ih1⟩ := impl_VersionOk.mono_l k
  refine ⟨?_, ?_⟩
  ·intro y0 y1 y2 y3 y4 y5 y6
   unfold impl_VersionOk.l0
   repeat' first
   | (with_reducible exact ih0 _ _ _ _ _ _ _)
   | (with_reducible exact ih1 _ _ _ _ _ _ _)
   | (with_reducible exact impl_all__impl_VersionOk_1.mono _ _)
   | (with_reducible exact impl_isNumber.mono _ _)
   | (with_reducible exact LeO.refl _)
   | (with_reducible exact LeO.none _)
   | (with_reducible refine LeO.ite ?_ ?_)
   | (with_reducible refine LeO.bind ?_ (fun _ => ?_))
   | exact ih0 _ _ _ _ _ _ _
   | exact ih1 _ _ _ _ _ _ _
   | exact impl_all__impl_VersionOk_1.mono _ _
   | exact impl_isNumber.mono _ _
   | exact LeO.none _
   | refine LeO.ite ?_ ?_
   | refine LeO.bind ?_ (fun _ => ?_)
  ·intro y0 y1 y2 y3 y4 y5 y6
   unfold impl_VersionOk.l1
   repeat' first
   | (with_reducible exact ih0 _ _ _ _ _ _ _)
   | (with_reducible exact ih1 _ _ _ _ _ _ _)
   | (with_reducible exact impl_all__impl_VersionOk_1.mono _ _)
   | (with_reducible exact impl_isNumber.mono _ _)
   | (with_reducible exact LeO.refl _)
   | (with_reducible exact LeO.none _)
   | (with_reducible refine LeO.ite ?_ ?_)
   | (with_reducible refine LeO.bind ?_ (fun _ => ?_))
   | exact ih0 _ _ _ _ _ _ _
   | exact ih1 _ _ _ _ _ _ _
   | exact impl_all__impl_VersionOk_1.mono _ _
   | exact impl_isNumber.mono _ _
   | exact LeO.none _
   | refine LeO.ite ?_ ?_
   | refine LeO.bind ?_ (fun _ => ?_)
theorem impl_VersionOk.mono : ∀ a0 a1 a2 a3 k, LeO (impl_VersionOk.f k a0 a1 a2 a3) (impl_VersionOk.f (k + 1) a0 a1 a2 a3) := by
 intro a0 a1 a2 a3 k
 obtain ⟨ih0, ih1⟩ := impl_VersionOk.mono_l k
 unfold impl_VersionOk.f
 repeat' first
   | (with_reducible exact ih0 _ _ _ _ _ _ _)
   | (with_reducible exact ih1 _ _ _ _ _ _ _)
   | (with_reducible exact impl_all__impl_VersionOk_1.mono _ _)
   | (with_reducible exact impl_isNumber.mono _ _)
   | (with_reducible exact LeO.refl _)
   | (with_reducible exact LeO.none _)
   | (with_reducible refine LeO.ite ?_ ?_)
   | (with_reducible refine LeO.bind ?_ (fun _ => ?_))
   | exact ih0 _ _ _ _ _ _ _
   | exact ih1 _ _ _ _ _ _ _
   | exact impl_all__impl_VersionOk_1.mono _ _
   | exact impl_isNumber.mono _ _
   | exact LeO.none _
   | refine LeO.ite ?_ ?_
   | refine LeO.bind ?_ (fun _ => ?_)
def impl_VersionText.f (k : Nat) (a0_0 : Int) (a0_1 : Int) (a0_2 : Int) (l0_3 : List ByteArray) : Option (ByteArray) := (impl_VersionOk.f k a0_0 a0_1 a0_2 l0_3).bind fun t203 => (if t203 = true then ((impl_DecText.f a0_0).bind fun t204 => (if t204.size + 1 ≤ 9223372036854775807 then ((impl_DecText.f a0_1).bind fun t205 => (if (t204 ++ (⟨#[46]⟩ : ByteArray)).size + t205.size ≤ 9223372036854775807 then (if ((t204 ++ (⟨#[46]⟩ : ByteArray)) ++ t205).size + 1 ≤ 9223372036854775807 then ((impl_DecText.f a0_2).bind fun t206 => (if (((t204 ++ (⟨#[46]⟩ : ByteArray)) ++ t205) ++ (⟨#[46]⟩ : ByteArray)).size + t206.size ≤ 9223372036854775807 then (if (l0_3.length : Int) > 0 then ((strings_Join.f l0_3 (⟨#[46]⟩ : ByteArray)).bind fun t207 => (if 1 + t207.size ≤ 9223372036854775807 then (if ((((t204 ++ (⟨#[46]⟩ : ByteArray)) ++ t205) ++ (⟨#[46]⟩ : ByteArray)) ++ t206).size + ((⟨#[45]⟩ : ByteArray) ++ t207).size ≤ 9223372036854775807 then (some (((((t204 ++ (⟨#[46]⟩ : ByteArray)) ++ t205) ++ (⟨#[46]⟩ : ByteArray)) ++ t206) ++ ((⟨#[45]⟩ : ByteArray) ++ t207))) else (none)) else (none))) else (some ((((t204 ++ (⟨#[46]⟩ : ByteArray)) ++ t205) ++ (⟨#[46]⟩ : ByteArray)) ++ t206))) else (none))) else (none)) else (none))) else (none))) else (some (⟨#[]⟩ : ByteArray)))
theorem impl_VersionText.mono : ∀ a0 a1 a2 a3 k, LeO (impl_VersionText.f k a0 a1 a2 a3) (impl_VersionText.f (k + 1) a0 a1 a2 a3) := by
 intro a0 a1 a2 a3 k
 unfold impl_VersionText.f
 repeat' first
   | (with_reducible exact impl_VersionOk.mono _ _ _ _ _)
   | (with_reducible exact LeO.refl _)
   | (with_reducible exact LeO.none _)
   | (with_reducible refine LeO.ite ?_ ?_)
   | (with_reducible refine LeO.bind ?_ (fun _ => ?_))
   | exact impl_VersionOk.mono _ _ _ _ _
   | exact LeO.none _
   | refine LeO.ite ?_ ?_
   | refine LeO.bind ?_ (fun _ => ?_)
def impl_ReadVersion.f (k : Nat) (a0 : ByteArray) : Option (Int × Int × Int × List ByteArray × Bool) := (strings_Cut.f a0 (⟨#[45]⟩ : ByteArray)).bind fun bt209 => ((strings_Split.f bt209.1 (⟨#[46]⟩ : ByteArray)).bind fun t212 => (if (t212.length : Int) = 3 then (if 0 < (t212.length : Int) then ((impl_ReadDec.f (rdOf ByteArray.empty t212 0)).bind fun t216 => (if 1 < (t212.length : Int) then ((impl_ReadDec.f (rdOf ByteArray.empty t212 1)).bind fun t218 => (if 2 < (t212.length : Int) then ((impl_ReadDec.f (rdOf ByteArray.empty t212 2)).bind fun t220 => (if bt209.2.2 = true then ((strings_Split.f bt209.2.1 (⟨#[46]⟩ : ByteArray)).bind fun t222 => ((impl_VersionText.f k t216 t218 t220 t222).bind fun t225 => (if t225.toList = a0.toList then (if a0.toList = ([] : List UInt8) then (some (0, 0, 0, ([] : List ByteArray), false)) else (some (t216, t218, t220, t222, true))) else (some (0, 0, 0, ([] : List ByteArray), false))))) else ((impl_VersionText.f k t216 t218 t220 ([] : List ByteArray)).bind fun t226 => (if t226.toList = a0.toList then (if a0.toList = ([] : List UInt8) then (some (0, 0, 0, ([] : List ByteArray), false)) else (some (t216, t218, t220, ([] : List ByteArray), true))) else (some (0, 0, 0, ([] : List ByteArray), false)))))) else (none))) else (none))) else (none)) else (some (0, 0, 0, ([] : List ByteArray), false))))
theorem impl_ReadVersion.mono : ∀ a0 k, LeO (impl_ReadVersion.f k a0) (impl_ReadVersion.f (k + 1) a0) := by
 intro a0 k
 unfold impl_ReadVersion.f
 repeat' first
   | (with_reducible exact impl_VersionText.mono _ _ _ _ _)
   | (with_reducible exact LeO.refl _)
   | (with_reducible exact LeO.none _)
   | (with_reducible refine LeO.ite ?_ ?_)
   | (with_reducible refine LeO.bind ?_ (fun _ => ?_))
   | exact impl_VersionText.mono _ _ _ _ _
   | exact LeO.none _
   | refine LeO.ite ?_ ?_
   | refine LeO.bind ?_ (fun _ => ?_)
def impl_compareInts.f (a0 : Int) (a1 : Int) : Option (Int) := if a0 < a1 then (some (-1)) else (if a0 > a1 then (some 1) else (some 0))
def strings_TrimLeft.f (a0 : ByteArray) (a1 : ByteArray) : Option ByteArray := if h : a1.size = 1 then (if (a1[0]'(by omega)).toNat < 128 ∧ a0.size ≤ 9223372036854775807 then some ⟨(Lib.trimLeftB a0.data.toList (a1[0]'(by omega))).toArray⟩ else none) else none
theorem strings_TrimLeft.calls (a0 : ByteArray) (a1 : ByteArray) (r : ByteArray) (w : World) (h : strings_TrimLeft.f a0 a1 = some r) :
  Calls Tryz.prog 123 #[.string a0, .string a1] w fun e w' => e = .returned (.string r) ∧ Drawn0 w w' := by
 unfold strings_TrimLeft.f at h
 split at h
 ·rename_i h1
  split at h
  ·rename_i h2
   obtain rfl := Option.some.inj h
   obtain ⟨c, rfl⟩ := Lib.one_byte a1 h1
   exact (Tryz.strings_TrimLeft_one a0 c h2.1 w).mono fun e w' ⟨h1, h2⟩ => ⟨h1, h2 ▸ Drawn0.refl _⟩
  ·cases h
 ·cases h
def strings_Compare.f (a0 : ByteArray) (a1 : ByteArray) : Option Int := some (Lib.compareBytes a0.data.toList a1.data.toList)
theorem strings_Compare.calls (a0 : ByteArray) (a1 : ByteArray) (r : Int) (w : World) (h : strings_Compare.f a0 a1 = some r) :
  Calls Tryz.prog 210 #[.string a0, .string a1] w fun e w' => e = .returned (.int .i64 r) ∧ Drawn0 w w' := by
 obtain rfl := Option.some.inj h
 exact (Tryz.strings_Compare a0 a1 w).mono fun e w' ⟨h1, h2⟩ => ⟨h1, h2 ▸ Drawn0.refl _⟩
def impl_comparePre.j0 : Nat → ByteArray → ByteArray → Bool → Bool → Bool → Option (Int)
 | 0, _, _, _, _, _ => none
 | k + 1, x0, x1, x5, x6, x12 => if x12 = true then ((strings_TrimLeft.f x0 (⟨#[48]⟩ : ByteArray)).bind fun t237 => ((strings_TrimLeft.f x1 (⟨#[48]⟩ : ByteArray)).bind fun t238 => ((impl_compareInts.f (t237.size : Int) (t238.size : Int)).bind fun t239 => (if t239 = 0 then ((strings_Compare.f t237 t238).bind fun t240 => (some t240)) else (some t239))))) else (if x5 = true then (some (-1)) else (if x6 = true then (some 1) else ((strings_Compare.f x0 x1).bind fun t241 => (some t241))))
def impl_comparePre.f (k : Nat) (a0 : ByteArray) (a1 : ByteArray) : Option (Int) := (impl_isNumber.f k a0).bind fun t235 => ((impl_isNumber.f k a1).bind fun t236 => (if t235 = true then (impl_comparePre.j0 k a0 a1 t235 t236 t236) else (impl_comparePre.j0 k a0 a1 t235 t236 false)))
theorem impl_comparePre.mono_l : ∀ k, (∀ y0 y1 y2 y3 y4, LeO (impl_comparePre.j0 k y0 y1 y2 y3 y4) (impl_comparePre.j0 (k + 1) y0 y1 y2 y3 y4))
 | 0 => fun _ _ _ _ _ r h => by simp [impl_comparePre.j0] at h
 | k + 1 => by
  have ih0 := impl_comparePre.mono_l k
  ·intro y0 y1 y2 y3 y4
   unfold impl_comparePre.j0
   repeat' first
   | (with_reducible exact ih0 _ _ _ _ _)
   | (with_reducible exact impl_isNumber.mono _ _)
   | (with_reducible exact LeO.refl _)
   | (with_reducible exact LeO.none _)
   | (with_reducible refine LeO.ite ?_ ?_)
   | (with_reducible refine LeO.bind ?_ (fun _ => ?_))
   | exact ih0 _ _ _ _ _
   | exact impl_isNumber.mono _ _
   | exact LeO.none _
   | refine LeO.ite ?_ ?_
   | refine LeO.bind ?_ (fun _ => ?_)
theorem impl_comparePre.mono : ∀ a0 a1 k, LeO (impl_comparePre.f k a0 a1) (impl_comparePre.f (k + 1) a0 a1) := by
 intro a0 a1 k
 have ih0 := impl_comparePre.mono_l k
 unfold impl_comparePre.f
 repeat' first
   | (with_reducible exact ih0 _ _ _ _ _)
   | (with_reducible exact impl_isNumber.mono _ _)
   | (with_reducible exact LeO.refl _)
   | (with_reducible exact LeO.none _)
   | (with_reducible refine LeO.ite ?_ ?_)
   | (with_reducible refine LeO.bind ?_ (fun _ => ?_))
   | exact ih0 _ _ _ _ _
   | exact impl_isNumber.mono _ _
   | exact LeO.none _
   | refine LeO.ite ?_ ?_
   | refine LeO.bind ?_ (fun _ => ?_)
mutual
def impl_CompareVersion.l0 : Nat → List Int → Int → Int → Int → Int → Int → List ByteArray → Int → Int → Int → List ByteArray → Option (Int)
 | 0, _, _, _, _, _, _, _, _, _, _, _ => none
 | k + 1, x24, x25, x26, x243000, x243001, x243002, x243003, x244000, x244001, x244002, x244003 => if x26 < x25 then (if 0 ≤ x26 then (if x26 < (x24.length : Int) then (if (rd x24 x26) = 0 then (impl_CompareVersion.l0 k x24 x25 (wrap64 (x26 + 1)) x243000 x243001 x243002 x243003 x244000 x244001 x244002 x244003) else (some (rd x24 x26))) else (none)) else (none)) else (if (((x243003.length : Int) == 0) != ((x244003.length : Int) == 0)) = true then ((impl_compareInts.f (x244003.length : Int) (x243003.length : Int)).bind fun t251 => (some t251)) else (impl_CompareVersion.l1 k (mn (x243003.length : Int) (x244003.length : Int)) 0 x243000 x243001 x243002 x243003 x244000 x244001 x244002 x244003))
def impl_CompareVersion.l1 : Nat → Int → Int → Int → Int → Int → List ByteArray → Int → Int → Int → List ByteArray → Option (Int)
 | 0, _, _, _, _, _, _, _, _, _, _ => none
 | k + 1, x56, x57, x243000, x243001, x243002, x243003, x244000, x244001, x244002, x244003 => if x57 < x56 then (if 0 ≤ x57 then (if x57 < (x243003.length : Int) then (if x57 < (x244003.length : Int) then ((impl_comparePre.f k (rdOf ByteArray.empty x243003 x57) (rdOf ByteArray.empty x244003 x57)).bind fun t254 => (if t254 = 0 then (impl_CompareVersion.l1 k x56 (wrap64 (x57 + 1)) x243000 x243001 x243002 x243003 x244000 x244001 x244002 x244003) else (some t254))) else (none)) else (none)) else (none)) else ((impl_compareInts.f (x243003.length : Int) (x244003.length : Int)).bind fun t255 => (some t255))
end
def impl_CompareVersion.f (k : Nat) (a0_0 : Int) (a0_1 : Int) (a0_2 : Int) (l0_3 : List ByteArray) (a1_0 : Int) (a1_1 : Int) (a1_2 : Int) (l1_3 : List ByteArray) : Option (Int) := (impl_compareInts.f a0_0 a1_0).bind fun t244 => ((impl_compareInts.f a0_1 a1_1).bind fun t245 => ((impl_compareInts.f a0_2 a1_2).bind fun t246 => ((some (([t244, t245, t246] : List Int) : List Int)).bind fun y247 => (impl_CompareVersion.l0 k y247 (y247.length : Int) 0 a0_0 a0_1 a0_2 l0_3 a1_0 a1_1 a1_2 l1_3))))
theorem impl_CompareVersion.mono_l : ∀ k, (∀ y0 y1 y2 y3 y4 y5 y6 y7 y8 y9 y10, LeO (impl_CompareVersion.l0 k y0 y1 y2 y3 y4 y5 y6 y7 y8 y9 y10) (impl_CompareVersion.l0 (k + 1) y0 y1 y2 y3 y4 y5 y6 y7 y8 y9 y10)) ∧ (∀ y0 y1 y2 y3 y4 y5 y6 y7 y8 y9, LeO (impl_CompareVersion.l1 k y0 y1 y2 y3 y4 y5 y6 y7 y8 y9) (impl_CompareVersion.l1 (k + 1) y0 y1 y2 y3 y4 y5 y6 y7 y8 y9))
 | 0 => ⟨fun _ _ _ _ _ _ _ _ _ _ _ r h => by simp [impl_CompareVersion.l0] at h, fun _ _ _ _ _ _ _ _ _ _ r h => by simp [impl_CompareVersion.l1] at h⟩
 | k + 1 => by
  obtain ⟨ih0, ih1⟩ := impl_CompareVersion.mono_l k
  refine ⟨?_, ?_⟩
  ·intro y0 y1 y2 y3 y4 y5 y6 y7 y8 y9 y10
   unfold impl_CompareVersion.l0
   repeat' first
   | (with_reducible exact ih0 _ _ _ _ _ _ _ _ _ _ _)
   | (with_reducible exact ih1 _ _ _ _ _ _ _ _ _ _)
   | (with_reducible exact impl_comparePre.mono _ _ _)
   | (with_reducible exact LeO.refl _)
   | (with_reducible exact LeO.none _)
   | (with_reducible refine LeO.ite ?_ ?_)
   | (with_reducible refine LeO.bind ?_ (fun _ => ?_))
   | exact ih0 _ _ _ _ _ _ _ _ _ _ _
   | exact ih1 _ _ _ _ _ _ _ _ _ _
   | exact impl_comparePre.mono _ _ _
   | exact LeO.none _
   | refine LeO.ite ?_ ?_
   | refine LeO.bind ?_ (fun _ => ?_)
  ·intro y0 y1 y2 y3 y4 y5 y6 y7 y8 y9
   unfold impl_CompareVersion.l1
   repeat' first
   | (with_reducible exact ih0 _ _ _ _ _ _ _ _ _ _ _)
   | (with_reducible exact ih1 _ _ _ _ _ _ _ _ _ _)
   | (with_reducible exact impl_comparePre.mono _ _ _)
   | (with_reducible exact LeO.refl _)
   | (with_reducible exact LeO.none _)
   | (with_reducible refine LeO.ite ?_ ?_)
   | (with_reducible refine LeO.bind ?_ (fun _ => ?_))
   | exact ih0 _ _ _ _ _ _ _ _ _ _ _
   | exact ih1 _ _ _ _ _ _ _ _ _ _
   | exact impl_comparePre.mono _ _ _
   | exact LeO.none _
   | refine LeO.ite ?_ ?_
   | refine LeO.bind ?_ (fun _ => ?_)
theorem impl_CompareVersion.mono : ∀ a0 a1 a2 a3 a4 a5 a6 a7 k, LeO (impl_CompareVersion.f k a0 a1 a2 a3 a4 a5 a6 a7) (impl_CompareVersion.f (k + 1) a0 a1 a2 a3 a4 a5 a6 a7) := by
 intro a0 a1 a2 a3 a4 a5 a6 a7 k
 obtain ⟨ih0, ih1⟩ := impl_CompareVersion.mono_l k
 unfold impl_CompareVersion.f
 repeat' first
   | (with_reducible exact ih0 _ _ _ _ _ _ _ _ _ _ _)
   | (with_reducible exact ih1 _ _ _ _ _ _ _ _ _ _)
   | (with_reducible exact impl_comparePre.mono _ _ _)
   | (with_reducible exact LeO.refl _)
   | (with_reducible exact LeO.none _)
   | (with_reducible refine LeO.ite ?_ ?_)
   | (with_reducible refine LeO.bind ?_ (fun _ => ?_))
   | exact ih0 _ _ _ _ _ _ _ _ _ _ _
   | exact ih1 _ _ _ _ _ _ _ _ _ _
   | exact impl_comparePre.mono _ _ _
   | exact LeO.none _
   | refine LeO.ite ?_ ?_
   | refine LeO.bind ?_ (fun _ => ?_)
def impl_compareTexts.f (k : Nat) (a0 : ByteArray) (a1 : ByteArray) : Option (Int) := (impl_ReadVersion.f k a0).bind fun bt256 => ((impl_ReadVersion.f k a1).bind fun bt264 => ((impl_CompareVersion.f k bt256.1 bt256.2.1 bt256.2.2.1 bt256.2.2.2.1 bt264.1 bt264.2.1 bt264.2.2.1 bt264.2.2.2.1).bind fun t272 => (some t272)))
theorem impl_compareTexts.mono : ∀ a0 a1 k, LeO (impl_compareTexts.f k a0 a1) (impl_compareTexts.f (k + 1) a0 a1) := by
 intro a0 a1 k
 unfold impl_compareTexts.f
 repeat' first
   | (with_reducible exact impl_CompareVersion.mono _ _ _ _ _ _ _ _ _)
   | (with_reducible exact impl_ReadVersion.mono _ _)
   | (with_reducible exact LeO.refl _)
   | (with_reducible exact LeO.none _)
   | (with_reducible refine LeO.ite ?_ ?_)
   | (with_reducible refine LeO.bind ?_ (fun _ => ?_))
   | exact impl_CompareVersion.mono _ _ _ _ _ _ _ _ _
   | exact impl_ReadVersion.mono _ _
   | exact LeO.none _
   | refine LeO.ite ?_ ?_
   | refine LeO.bind ?_ (fun _ => ?_)
def IsS137 (w0 W : World) (g : Nat) (f0 : List Int) (f1 : Int) (f2 : Int) : Prop := ∃ A0 c0, W.heap[g]? = some (.cells #[.slice A0 f0.length c0, .int .i64 f1, .int .i64 f2] 137 (0, 0)) ∧ w0.heap.size ≤ g ∧ Kd.C (Kd.int .u8) w0 A0 f0.length f0
theorem IsS137.grown {w0 W : World} {g : Nat} {f0 : List Int} {f1 : Int} {f2 : Int} {W1 : World} {row : Option Nat} (h : IsS137 w0 W g f0 f1 f2) (hw : W.grownBy W1 row) (hne : some g ≠ row) : IsS137 w0 W1 g f0 f1 f2 := by
 obtain ⟨A0, c0, hb, hg, hr0⟩ := h
 exact ⟨A0, c0, blk_grown hb hw hne, hg, hr0⟩
theorem IsS137.own_neN {w0 W : World} {g : Nat} {f0 : List Int} {f1 : Int} {f2 : Int} {α : Type} {d : Kd α} {e : Nat} {base : Nat} {ok : Nat → Prop} {v : Value} {xs : List α} (h : IsS137 w0 W g f0 f1 f2) (ho : Kd.N d e W base ok v xs) (ht : e ≠ 137) : some g ≠ v.ownBlock := by
 obtain ⟨A0, c0, hb, hg, hr0⟩ := h
 exact Kd.N_ne ho hb ht
theorem IsS137.fresh {w0 W : World} {g : Nat} {f0 : List Int} {f1 : Int} {f2 : Int} (h : IsS137 w0 W g f0 f1 f2) : ∀ k, W.heap.size ≤ k → k ≠ g := by
 obtain ⟨A0, c0, hb, hg, hr0⟩ := h
 exact Kd.freshB hb
theorem IsS137.kept {w0 W : World} {g : Nat} {f0 : List Int} {f1 : Int} {f2 : Int} {W1 : World} {S : Nat → Prop} (h : IsS137 w0 W g f0 f1 f2) (hk : Kept W W1 S) (hne : ¬ S g) : IsS137 w0 W1 g f0 f1 f2 := by
 obtain ⟨A0, c0, hb, hg, hr0⟩ := h
 exact ⟨A0, c0, blk_kept hb hk hne, hg, hr0⟩
theorem IsS137.below {w0 W : World} {g : Nat} {f0 : List Int} {f1 : Int} {f2 : Int} {W1 : World} (h : IsS137 w0 W g f0 f1 f2) (hw : Below W.heap.size W W1) : IsS137 w0 W1 g f0 f1 f2 := h.grown (grown_of_below hw none) (by simp)
theorem IsS137.alloc {w0 W : World} {g : Nat} {f0 : List Int} {f1 : Int} {f2 : Int} (h : IsS137 w0 W g f0 f1 f2) (o : Obj) : IsS137 w0 (W.alloc o) g f0 f1 f2 := h.below (below_alloc (Below.refl _ _) o)
theorem IsS137.drewN {w0 W : World} {g : Nat} {f0 : List Int} {f1 : Int} {f2 : Int} (h : IsS137 w0 W g f0 f1 f2) (m : Nat) : IsS137 w0 (W.drewN m) g f0 f1 f2 := h
theorem IsS137.drew {w0 W : World} {g : Nat} {f0 : List Int} {f1 : Int} {f2 : Int} (h : IsS137 w0 W g f0 f1 f2) : IsS137 w0 W.drew g f0 f1 f2 := h
theorem IsS137.at_ {w0 W : World} {g : Nat} {f0 : List Int} {f1 : Int} {f2 : Int} {w' : World} {m : Nat} (hq : W.drewN m = w') (h : IsS137 w0 W g f0 f1 f2) : IsS137 w0 w' g f0 f1 f2 := by subst hq; exact IsS137.drewN h m
theorem IsS137.apart {w0 W : World} {g : Nat} {f0 : List Int} {f1 : Int} {f2 : Int} {α : Type} {d : Kd α} {e : Nat} {base : Nat} {ok : Nat → Prop} {v : Value} {xs : List α} (h : IsS137 w0 W g f0 f1 f2) (ho : d.R e W base ok v xs) (ht : ∀ q, q ∈ e :: d.E → q ≠ 137) : d.R e W base (fun k => ok k ∧ k ≠ g) v xs := by
 obtain ⟨A0, c0, hb, hg, hr0⟩ := h
 exact Kd.R_types ho hb ht
theorem IsS137.own_ne {w0 W : World} {g : Nat} {f0 : List Int} {f1 : Int} {f2 : Int} {α : Type} {d : Kd α} {e : Nat} {base : Nat} {ok : Nat → Prop} {v : Value} {xs : List α} (h : IsS137 w0 W g f0 f1 f2) (ho : d.R e W base ok v xs) (ht : e ≠ 137) : some g ≠ v.ownBlock := by
 obtain ⟨A0, c0, hb, hg, hr0⟩ := h
 exact Kd.R_ne ho hb ht
theorem IsS137.apartQ {w0 W : World} {g : Nat} {f0 : List Int} {f1 : Int} {f2 : Int} {α : Type} {d : Kd α} {e : Nat} {base : Nat} {ok : Nat → Prop} {v : Value} {xs : List α} (h : IsS137 w0 W g f0 f1 f2) (ho : d.Q e W base ok v xs) (ht : ∀ q, q ∈ e :: d.E → q ≠ 137) : d.Q e W base (fun k => ok k ∧ k ≠ g) v xs := by
 obtain ⟨A0, c0, hb, hg, hr0⟩ := h
 exact Kd.Q_types ho hb ht
theorem IsS137.own_neQ {w0 W : World} {g : Nat} {f0 : List Int} {f1 : Int} {f2 : Int} {α : Type} {d : Kd α} {e : Nat} {base : Nat} {ok : Nat → Prop} {v : Value} {xs : List α} (h : IsS137 w0 W g f0 f1 f2) (ho : d.Q e W base ok v xs) (ht : e ≠ 137) : some g ≠ v.ownBlock := by
 obtain ⟨A0, c0, hb, hg, hr0⟩ := h
 exact Kd.Q_ne ho hb ht
theorem IsS137.apartS {w0 W : World} {g : Nat} {f0 : List Int} {f1 : Int} {f2 : Int} {α : Type} {d : Kd α} {e : Nat} {base : Nat} {ok : Nat → Prop} {v : Value} {xs : List α} (h : IsS137 w0 W g f0 f1 f2) (ho : d.S e W base ok v xs) (ht : ∀ q, q ∈ e :: d.E → q ≠ 137) : d.S e W base (fun k => ok k ∧ k ≠ g) v xs := by
 obtain ⟨A0, c0, hb, hg, hr0⟩ := h
 exact Kd.S_types ho hb ht
theorem IsS137.own_neS {w0 W : World} {g : Nat} {f0 : List Int} {f1 : Int} {f2 : Int} {α : Type} {d : Kd α} {e : Nat} {base : Nat} {ok : Nat → Prop} {v : Value} {xs : List α} (h : IsS137 w0 W g f0 f1 f2) (ho : d.S e W base ok v xs) (ht : e ≠ 137) : some g ≠ v.ownBlock := by
 obtain ⟨A0, c0, hb, hg, hr0⟩ := h
 exact Kd.S_ne ho hb ht
theorem IsS137.lt {w0 W : World} {g : Nat} {f0 : List Int} {f1 : Int} {f2 : Int} (h : IsS137 w0 W g f0 f1 f2) : g < W.heap.size := by
 obtain ⟨A0, c0, hb, hg, hr0⟩ := h
 exact blk_lt hb
theorem IsS137.ge {w0 W : World} {g : Nat} {f0 : List Int} {f1 : Int} {f2 : Int} (h : IsS137 w0 W g f0 f1 f2) : w0.heap.size ≤ g := by
 obtain ⟨A0, c0, hb, hg, hr0⟩ := h
 exact hg
theorem IsS137.ne_blk {w0 W : World} {g : Nat} {f0 : List Int} {f1 : Int} {f2 : Int} {a : Nat} {cs : Array Value} {t : TypeId} {fr : Nat × Nat} (h : IsS137 w0 W g f0 f1 f2) (hb2 : W.heap[a]? = some (.cells cs t fr)) (ht : t ≠ 137) : g ≠ a := by
 obtain ⟨A0, c0, hb, hg, hr0⟩ := h
 rintro rfl
 rw [hb] at hb2
 injection hb2 with hb2
 injection hb2 with _ ht2
 exact ht ht2.symm
theorem IsS137.far {w0 W : World} {g : Nat} {f0 : List Int} {f1 : Int} {f2 : Int} {p : Addr} (h : IsS137 w0 W g f0 f1 f2) (hne : g ≠ p.block) (u : Value) : IsS137 w0 (W.setCell p u) g f0 f1 f2 := by
 obtain ⟨A0, c0, hb, hg, hr0⟩ := h
 exact ⟨A0, c0, blk_far hb hne u, hg, hr0⟩
theorem cellS137_0 {W : World} {g : Nat} {A0 : Option Addr} {c0 : Nat} {f0 : List Int} {f1 : Int} {f2 : Int} (h : W.heap[g]? = some (.cells #[.slice A0 f0.length c0, .int .i64 f1, .int .i64 f2] 137 (0, 0))) : W.cell? ⟨g, 0, none⟩ = some (.slice A0 f0.length c0) := (blk_cell h 0).trans rfl
theorem cellS137_1 {W : World} {g : Nat} {A0 : Option Addr} {c0 : Nat} {f0 : List Int} {f1 : Int} {f2 : Int} (h : W.heap[g]? = some (.cells #[.slice A0 f0.length c0, .int .i64 f1, .int .i64 f2] 137 (0, 0))) : W.cell? ⟨g, 1, none⟩ = some (.int .i64 f1) := (blk_cell h 1).trans rfl
theorem IsS137.set_1 {w0 W : World} {g : Nat} {f0 : List Int} {f1 : Int} {f2 : Int} (h : IsS137 w0 W g f0 f1 f2) (x : Int) : IsS137 w0 (W.setCell ⟨g, 1, none⟩ (.int .i64 x)) g f0 x f2 := by
 obtain ⟨A0, c0, hb, hg, hr0⟩ := h
 exact ⟨A0, c0, by simpa using blk_set hb 1 (.int .i64 x), hg, hr0⟩
theorem cellS137_2 {W : World} {g : Nat} {A0 : Option Addr} {c0 : Nat} {f0 : List Int} {f1 : Int} {f2 : Int} (h : W.heap[g]? = some (.cells #[.slice A0 f0.length c0, .int .i64 f1, .int .i64 f2] 137 (0, 0))) : W.cell? ⟨g, 2, none⟩ = some (.int .i64 f2) := (blk_cell h 2).trans rfl
theorem IsS137.set_2 {w0 W : World} {g : Nat} {f0 : List Int} {f1 : Int} {f2 : Int} (h : IsS137 w0 W g f0 f1 f2) (x : Int) : IsS137 w0 (W.setCell ⟨g, 2, none⟩ (.int .i64 x)) g f0 f1 x := by
 obtain ⟨A0, c0, hb, hg, hr0⟩ := h
 exact ⟨A0, c0, by simpa using blk_set hb 2 (.int .i64 x), hg, hr0⟩
theorem IsS137.new (w0 W : World) (A0 : Option Addr) (c0 : Nat) (f0 : List Int) (f1 : Int) (f2 : Int) (hB : Below w0.heap.size w0 W) (hr0 : Kd.C (Kd.int .u8) w0 A0 f0.length f0) : IsS137 w0 (W.alloc (.cells #[.slice A0 f0.length c0, .int .i64 f1, .int .i64 f2] 137)) W.heap.size f0 f1 f2 := ⟨A0, c0, by simpa using heap_alloc_new W _, hB.size, hr0⟩
def spec_l01New.l0 : Nat → List Int → Int → Int → Option (List Int × Int × Int)
 | 0, _, _, _ => none
 | k + 1, x0, x3, x4 => if x4 < (x0.length : Int) then (if x4 < 4000 then (if 0 ≤ x4 then (spec_l01New.l0 k x0 (Go.bits .and .i64 (wrap64 ((wrap64 ((wrap64 (x3 * 131)) + (wrap64 (rd x0 x4)))) + 7)) 1073741823) (wrap64 (x4 + 1))) else (none)) else (some (x0, 0, x3))) else (some (x0, 0, x3))
def spec_l01New.f (k : Nat) (l0 : List Int) : Option (List Int × Int × Int) := spec_l01New.l0 k l0 (wrap64 (445445 + (l0.length : Int))) 0
theorem spec_l01New.mono_l : ∀ k, (∀ y0 y1 y2, LeO (spec_l01New.l0 k y0 y1 y2) (spec_l01New.l0 (k + 1) y0 y1 y2))
 | 0 => fun _ _ _ r h => by simp [spec_l01New.l0] at h
 | k + 1 => by
  have ih0 := spec_l01New.mono_l k
  ·intro y0 y1 y2
   unfold spec_l01New.l0
   repeat' first
   | (with_reducible exact ih0 _ _ _)
   | (with_reducible exact LeO.refl _)
   | (with_reducible exact LeO.none _)
   | (with_reducible refine LeO.ite ?_ ?_)
   | (with_reducible refine LeO.bind ?_ (fun _ => ?_))
   | exact ih0 _ _ _
   | exact LeO.none _
   | refine LeO.ite ?_ ?_
   | refine LeO.bind ?_ (fun _ => ?_)
theorem spec_l01New.mono : ∀ a0 k, LeO (spec_l01New.f k a0) (spec_l01New.f (k + 1) a0) := by
 intro a0 k
 have ih0 := spec_l01New.mono_l k
 unfold spec_l01New.f
 repeat' first
   | (with_reducible exact ih0 _ _ _)
   | (with_reducible exact LeO.refl _)
   | (with_reducible exact LeO.none _)
   | (with_reducible refine LeO.ite ?_ ?_)
   | (with_reducible refine LeO.bind ?_ (fun _ => ?_))
   | exact ih0 _ _ _
   | exact LeO.none _
   | refine LeO.ite ?_ ?_
   | refine LeO.bind ?_ (fun _ => ?_)
def spec_l01Byte.f (s0_0 : List Int) (s0_1 : Int) (s0_2 : Int) : Option (Int × Int × Int) := if s0_1 < (s0_0.length : Int) then (if 0 ≤ s0_1 then (some (Go.bits .and .i64 (wrap64 ((Go.bits .and .i64 (Go.bits .xor .i64 ((wrap64 ((wrap64 (s0_2 * 6364136223846793005)) + 1442695040888963407)) / 8589934592) ((wrap64 ((wrap64 (s0_2 * 6364136223846793005)) + 1442695040888963407)) / 35184372088832)) 255) + (wrap64 (rd s0_0 s0_1)))) 255, wrap64 (s0_1 + 1), wrap64 ((wrap64 (s0_2 * 6364136223846793005)) + 1442695040888963407))) else (none)) else (some (Go.bits .and .i64 (Go.bits .xor .i64 ((wrap64 ((wrap64 (s0_2 * 6364136223846793005)) + 1442695040888963407)) / 8589934592) ((wrap64 ((wrap64 (s0_2 * 6364136223846793005)) + 1442695040888963407)) / 35184372088832)) 255, s0_1, wrap64 ((wrap64 (s0_2 * 6364136223846793005)) + 1442695040888963407)))
def spec_l01Below.f (s0_0 : List Int) (s0_1 : Int) (s0_2 : Int) (a1 : Int) : Option (Int × Int × Int) := if a1 ≤ 0 then (some (0, s0_1, s0_2)) else (if a1 ≤ 256 then ((spec_l01Byte.f s0_0 s0_1 s0_2).bind fun bt521 => (if a1 = 0 then (none) else (some (Int.tmod bt521.1 a1, bt521.2.1, bt521.2.2)))) else ((spec_l01Byte.f s0_0 s0_1 s0_2).bind fun bt524 => ((spec_l01Byte.f s0_0 bt524.2.1 bt524.2.2).bind fun bt527 => ((spec_l01Byte.f s0_0 bt527.2.1 bt527.2.2).bind fun bt530 => ((spec_l01Byte.f s0_0 bt530.2.1 bt530.2.2).bind fun bt533 => (if a1 = 0 then (none) else (some (Int.tmod (wrap64 ((wrap64 ((wrap64 ((wrap64 (bt524.1 * 16777216)) + (wrap64 (bt527.1 * 65536)))) + (wrap64 (bt530.1 * 256)))) + bt533.1)) a1, bt533.2.1, bt533.2.2))))))))
end Go.Proofs.YtcfeihimmboghaaGreatDoor.G

end
