/- A part of the proof that the law FnPick answers true at every input that its row speaks of. Conditions: the row's own. -/
import Derived.Test.YtoidompkofomjaaGreatDoorKFnPick0
import Derived.Lib.SmallJoins
import Derived.Test.YtoidompkofomjaaGreatDoorShelf
section
namespace Go.Proofs.YtoidompkofomjaaGreatDoor.G
open Go.RowKit Go.Proofs.YtoidompkofomjaaGreatDoorW.PrintWords Go.Proofs.YtoidompkofomjaaGreatDoorW.PrintLast Go.Proofs.YtoidompkofomjaaGreatDoorW.PrintMore
attribute [local go_sem] max2_int min2_int max_two min_two max_three min_three max_four min_four
attribute [local go_sem high] Go.Proofs.YtoidompkofomjaaGreatDoor.G.str_gtr Go.Proofs.YtoidompkofomjaaGreatDoor.G.str_leq Go.Proofs.YtoidompkofomjaaGreatDoor.G.str_geq
set_option linter.unusedVariables false
set_option linter.unusedSimpArgs false
def impl_ReadDec.f (a0 : ByteArray) : Option Int := if a0.size ≤ 281474976710656 then (match Lib.atoiAll a0.data.toList with | .ok n => (impl_within.f n 0 999999999).bind fun t => if t = true then (impl_DecText.f n).bind fun s => if s.toList = a0.toList then some n else some (-1) else some (-1) | _ => some (-1)) else none
set_option maxHeartbeats 8000000 in
set_option maxRecDepth 100000 in
theorem impl_ReadDec.calls (a0 : ByteArray) (r : Int) (w : World) (hGE : Glob FactE w) (hGT : Glob FactT w) (h : impl_ReadDec.f a0 = some r) :
  Calls Tryz.prog 26 #[.string a0] w fun e w' => e = .returned (.int .i64 r) ∧ Below w.heap.size w w' := by
 have HB := Aside0.mk (Below.refl w.heap.size w)
 have HGT := Aside0.mk hGT
 clear hGT
 unfold impl_ReadDec.f at h
 by_cases hc : a0.size ≤ 281474976710656
 case neg => rw [if_neg hc] at h; cases h
 rw [if_pos hc] at h
 obtain ⟨⟨t1, p1, e1⟩, ⟨t2, p2, e2⟩⟩ := FactE.here hGE
 clear hGE
 cases ha : Lib.atoiAll a0.data.toList
 ·rename_i n
  rw [ha] at h
  have C : Calls Tryz.prog 47 #[.string a0] w fun e w' => e = .returned (.tuple #[.int .i64 n, .nilIface]) ∧ Below w.heap.size w w' := by
   refine (Tryz.strconv_Atoi_ok a0 (by omega) n ha w).mono fun e w' ⟨h1, h2⟩ => ⟨h1, ?_⟩
   rcases h2 with rfl | ⟨t, rfl⟩
   ·exact Below.refl _ _
   ·exact Go.Joins.below_bytesWorld _ w _ t (Nat.le_refl _)
  replace C := Aside0.mk C
  clear ha e1 e2
  have H : ((impl_within.f n 0 999999999).bind fun t => if t = true then (impl_DecText.f n).bind fun s => if s.toList = a0.toList then some n else some (-1) else some (-1)) = some r := h
  clear h
  replace H := Option.bind_eq_some_iff.mp H
  obtain ⟨tw, Aw0, H⟩ := H
  have Aw := Aside0.mk Aw0
  clear Aw0
  replace H : (if tw = true then (impl_DecText.f n).bind fun s => if s.toList = a0.toList then some n else some (-1) else some (-1)) = some r := H
  cases tw with
  | false =>
   rw [if_neg (by decide)] at H
   obtain rfl := Option.some.inj H
   go_enter Tryz.func26, Tryz.ntmps26
   go_wp2_with (first | (go_at_call 47; (with_reducible refine C.out.mono ?_); rintro e w' ⟨rfl, hb⟩; have n0_ := Aside0.mk (below_step (by repeat (first | (with_reducible first | exact HB.out | apply below_alloc | apply pw_below_drewN | apply below_drew1) | exact HB.out)) hb); clear HB; have HB := n0_; clear n0_; (try clear hb)) | (go_at_call 44; (with_reducible refine (impl_within.calls n 0 999999999 false _ Aw.out).mono ?_); rintro e w' ⟨rfl, ⟨nd, rfl⟩⟩))
   go_ret
   exact ⟨by first | rfl | (simp; done), by repeat (first | (with_reducible first | exact HB.out | apply below_alloc | apply pw_below_drewN | apply below_drew1) | exact HB.out)⟩
  | true =>
   rw [if_pos rfl] at H
   replace H := Option.bind_eq_some_iff.mp H
   obtain ⟨ts, As0, H⟩ := H
   have As := Aside0.mk As0
   clear As0
   replace H : (if ts.toList = a0.toList then some n else some (-1)) = some r := H
   by_cases c4 : ts.toList = a0.toList
   ·rw [if_pos c4] at H
    have c4b0 : (ts.toList == a0.toList) = true := beq_iff_eq.mpr c4
    have c4b1 : (ts.toList != a0.toList) = false := bne_eq_false_iff_eq.mpr c4
    clear c4
    obtain rfl := Option.some.inj H
    go_enter Tryz.func26, Tryz.ntmps26
    go_wp2_with (first | (go_at_call 47; (with_reducible refine C.out.mono ?_); rintro e w' ⟨rfl, hb⟩; have n0_ := Aside0.mk (below_step (by repeat (first | (with_reducible first | exact HB.out | apply below_alloc | apply pw_below_drewN | apply below_drew1) | exact HB.out)) hb); clear HB; have HB := n0_; clear n0_; (try clear hb)) | (go_at_call 44; (with_reducible refine (impl_within.calls n 0 999999999 true _ Aw.out).mono ?_); rintro e w' ⟨rfl, ⟨nd, rfl⟩⟩) | (go_at_call 48; (with_reducible refine (impl_DecText.calls n ts _ ?side1 As.out).mono ?_); (case side1 => exact Glob.below HGT.out (by repeat (first | (with_reducible first | exact HB.out | apply below_alloc | apply pw_below_drewN | apply below_drew1) | exact HB.out))); rintro e w3 ⟨rfl, hb⟩; have n0_ := Aside0.mk (below_step (by repeat (first | (with_reducible first | exact HB.out | apply below_alloc | apply pw_below_drewN | apply below_drew1) | exact HB.out)) hb); clear HB; have HB := n0_; clear n0_; (try clear hb)))
    go_ret
    exact ⟨by first | rfl | (simp; done), by repeat (first | (with_reducible first | exact HB.out | apply below_alloc | apply pw_below_drewN | apply below_drew1) | exact HB.out)⟩
   ·rw [if_neg c4] at H
    have c4b0 : (ts.toList == a0.toList) = false := beq_eq_false_iff_ne.mpr c4
    have c4b1 : (ts.toList != a0.toList) = true := bne_iff_ne.mpr c4
    clear c4
    obtain rfl := Option.some.inj H
    go_enter Tryz.func26, Tryz.ntmps26
    go_wp2_with (first | (go_at_call 47; (with_reducible refine C.out.mono ?_); rintro e w' ⟨rfl, hb⟩; have n0_ := Aside0.mk (below_step (by repeat (first | (with_reducible first | exact HB.out | apply below_alloc | apply pw_below_drewN | apply below_drew1) | exact HB.out)) hb); clear HB; have HB := n0_; clear n0_; (try clear hb)) | (go_at_call 44; (with_reducible refine (impl_within.calls n 0 999999999 true _ Aw.out).mono ?_); rintro e w' ⟨rfl, ⟨nd, rfl⟩⟩) | (go_at_call 48; (with_reducible refine (impl_DecText.calls n ts _ ?side1 As.out).mono ?_); (case side1 => exact Glob.below HGT.out (by repeat (first | (with_reducible first | exact HB.out | apply below_alloc | apply pw_below_drewN | apply below_drew1) | exact HB.out))); rintro e w3 ⟨rfl, hb⟩; have n0_ := Aside0.mk (below_step (by repeat (first | (with_reducible first | exact HB.out | apply below_alloc | apply pw_below_drewN | apply below_drew1) | exact HB.out)) hb); clear HB; have HB := n0_; clear n0_; (try clear hb)))
    go_ret
    exact ⟨by first | rfl | (simp; done), by repeat (first | (with_reducible first | exact HB.out | apply below_alloc | apply pw_below_drewN | apply below_drew1) | exact HB.out)⟩
 ·rw [ha] at h
  obtain rfl := Option.some.inj h
  have C0 := Any.strconv_Atoi_syntax_var Tryz.laysC172 a0 hc ha t1 p1 w e1
  have C1 : Calls Tryz.prog 47 #[.string a0] w fun e w' => ∃ N t, e = .returned (.tuple #[.int .i64 0, .iface t (.pointer (some ⟨N, 0, none⟩))]) ∧ Below w.heap.size w w' :=
   (show Calls Tryz.prog 47 _ _ _ from C0).mono fun e w' ⟨N, h1, _, _, h4⟩ => ⟨N, _, h1, h4⟩
  have C := Aside0.mk C1
  clear C0 C1
  clear ha e1 e2 h
  go_enter Tryz.func26, Tryz.ntmps26
  go_wp2_with (go_at_call 47; (with_reducible refine C.out.mono ?_); rintro e w' ⟨NE, TE, rfl, hb⟩; have n0_ := Aside0.mk (below_step (by repeat (first | (with_reducible first | exact HB.out | apply below_alloc | apply pw_below_drewN | apply below_drew1) | exact HB.out)) hb); clear HB; have HB := n0_; clear n0_; (try clear hb))
  go_ret
  exact ⟨by first | rfl | (simp; done), by repeat (first | (with_reducible first | exact HB.out | apply below_alloc | apply pw_below_drewN | apply below_drew1) | exact HB.out)⟩
 ·rw [ha] at h
  obtain rfl := Option.some.inj h
  have C := Aside0.mk (Tryz.strconv_Atoi_range_var a0 hc ha t2 p2 w e2)
  clear ha e1 e2 h
  go_enter Tryz.func26, Tryz.ntmps26
  go_wp2_with (go_at_call 47; (with_reducible refine C.out.mono ?_); rintro e w' ⟨NE, rfl, -, -, hb⟩; have n0_ := Aside0.mk (below_step (by repeat (first | (with_reducible first | exact HB.out | apply below_alloc | apply pw_below_drewN | apply below_drew1) | exact HB.out)) hb); clear HB; have HB := n0_; clear n0_; (try clear hb))
  go_ret
  exact ⟨by first | rfl | (simp; done), by repeat (first | (with_reducible first | exact HB.out | apply below_alloc | apply pw_below_drewN | apply below_drew1) | exact HB.out)⟩
def impl_isDigit.f (a0 : Int) : Option (Bool) := if a0 ≥ 48 then (some (decide (a0 ≤ 57))) else (some false)
def impl_all__impl_isDigit.l0 : Nat → ByteArray → Int → Int → Option (Bool)
 | 0, _, _, _ => none
 | k + 1, x0, x7, x8 => if x8 < x7 then (if 0 ≤ x8 then (if x8 < (x0.size : Int) then ((impl_isDigit.f (bt x0 x8)).bind fun t536 => (if t536 = true then (impl_all__impl_isDigit.l0 k x0 x7 (wrap64 (x8 + 1))) else (some false))) else (none)) else (none)) else (some true)
def impl_all__impl_isDigit.f (k : Nat) (a0 : ByteArray)  : Option (Bool) := impl_all__impl_isDigit.l0 k a0 (a0.size : Int) 0
def impl_isNumber.f (k : Nat) (a0 : ByteArray) : Option (Bool) := if a0.toList = ([] : List UInt8) then (some false) else ((impl_all__impl_isDigit.f k a0).bind fun t537 => (some t537))
def impl_isLower.f (a0 : Int) : Option (Bool) := if a0 ≥ 97 then (some (decide (a0 ≤ 122))) else (some false)
def impl_isLetter.f (a0 : Int) : Option (Bool) := (impl_isLower.f a0).bind fun t538 => (if t538 = true then (some true) else (if a0 ≥ 65 then (some (decide (a0 ≤ 90))) else (some false)))
def impl_VersionOk_1.f (a0 : Int) : Option (Bool) := (impl_isLetter.f a0).bind fun t539 => (if t539 = true then (some true) else ((impl_isDigit.f a0).bind fun t540 => (if t540 = true then (some true) else (some (a0 == 45)))))
def impl_all__impl_VersionOk_1.l0 : Nat → ByteArray → Int → Int → Option (Bool)
 | 0, _, _, _ => none
 | k + 1, x0, x7, x8 => if x8 < x7 then (if 0 ≤ x8 then (if x8 < (x0.size : Int) then ((impl_VersionOk_1.f (bt x0 x8)).bind fun t541 => (if t541 = true then (impl_all__impl_VersionOk_1.l0 k x0 x7 (wrap64 (x8 + 1))) else (some false))) else (none)) else (none)) else (some true)
def impl_all__impl_VersionOk_1.f (k : Nat) (a0 : ByteArray)  : Option (Bool) := impl_all__impl_VersionOk_1.l0 k a0 (a0.size : Int) 0
mutual
def impl_VersionOk.l0 : Nat → List Int → Int → Int → Int → Int → Int → List ByteArray → Option (Bool)
 | 0, _, _, _, _, _, _, _ => none
 | k + 1, x13, x14, x15, x543000, x543001, x543002, x543003 => if x15 < x14 then (if 0 ≤ x15 then (if x15 < (x13.length : Int) then ((impl_within.f (rd x13 x15) 0 999999999).bind fun t547 => (if t547 = true then (impl_VersionOk.l0 k x13 x14 (wrap64 (x15 + 1)) x543000 x543001 x543002 x543003) else (some false))) else (none)) else (none)) else (impl_VersionOk.l1 k x543003 (x543003.length : Int) 0 x543000 x543001 x543002 x543003)
def impl_VersionOk.l1 : Nat → List ByteArray → Int → Int → Int → Int → Int → List ByteArray → Option (Bool)
 | 0, _, _, _, _, _, _, _ => none
 | k + 1, x24, x25, x26, x543000, x543001, x543002, x543003 => if x26 < x25 then (if 0 ≤ x26 then (if x26 < (x24.length : Int) then ((impl_within.f ((rdOf ByteArray.empty x24 x26).size : Int) 1 20).bind fun t549 => (if t549 = true then ((impl_all__impl_VersionOk_1.f k (rdOf ByteArray.empty x24 x26)).bind fun t550 => (if t550 = true then ((impl_isNumber.f k (rdOf ByteArray.empty x24 x26)).bind fun t551 => (if t551 = true then ((impl_ReadDec.f (rdOf ByteArray.empty x24 x26)).bind fun t552 => (if t552 < 0 then (some false) else (impl_VersionOk.l1 k x24 x25 (wrap64 (x26 + 1)) x543000 x543001 x543002 x543003))) else (impl_VersionOk.l1 k x24 x25 (wrap64 (x26 + 1)) x543000 x543001 x543002 x543003))) else (some false))) else (some false))) else (none)) else (none)) else (some (decide ((x543003.length : Int) ≤ 5)))
end
def impl_VersionOk.f (k : Nat) (a0_0 : Int) (a0_1 : Int) (a0_2 : Int) (l0_3 : List ByteArray) : Option (Bool) := (some (([a0_0, a0_1, a0_2] : List Int) : List Int)).bind fun y543 => (impl_VersionOk.l0 k y543 (y543.length : Int) 0 a0_0 a0_1 a0_2 l0_3)
def strings_Join.f (l0 : List ByteArray) (a1 : ByteArray) : Option ByteArray := if l0.length ≤ 140737488355328 ∧ (Lib.join (l0.map (·.data.toList)) a1.data.toList).length ≤ 140737488355328 then some ⟨(Lib.join (l0.map (·.data.toList)) a1.data.toList).toArray⟩ else none
theorem strings_Join.calls (A0 : Option Addr) (c0 : Nat) (l0 : List ByteArray) (a1 : ByteArray) (r : ByteArray) (w : World) (hr0 : Kd.C Kd.string w A0 l0.length l0) (hc0 : l0.length ≤ c0) (h : strings_Join.f l0 a1 = some r) :
  Calls Tryz.prog 50 #[.slice A0 l0.length c0, .string a1] w fun e w' => e = .returned (.string r) ∧ Below w.heap.size w w' := by
 unfold strings_Join.f at h
 by_cases hc : l0.length ≤ 140737488355328 ∧ (Lib.join (l0.map (·.data.toList)) a1.data.toList).length ≤ 140737488355328
 ·rw [if_pos hc] at h
  obtain rfl := Option.some.inj h
  cases l0 with
  | nil => exact (Tryz.strings_Join_none A0 c0 a1 w).mono fun e w' ⟨h1, h2⟩ => ⟨h1, h2 ▸ Below.refl _ _⟩
  | cons x l =>
   obtain ⟨ad, rfl, hcell⟩ := hr0.2.2 (by simp)
   have cell : ∀ (j : Nat) y, (x :: l)[j]? = some y → w.cell? (ad.add (j * 1 + 0)) = some (.string y) := by
    intro j y hy
    obtain ⟨cs, _, hk, hi⟩ := hcell j y hy
    have hk' : cs = [.string y] := hk
    subst hk'
    exact hi 0 _ rfl
   obtain ⟨b, o, sp⟩ := ad
   have hsp : sp = none := Go.Proofs.cell_spot (cell 0 x rfl)
   subst hsp
   have e : ∀ j, (⟨b, o, none⟩ : Addr).add (j * 1 + 0) = ⟨b, o + j, none⟩ := fun j => by unfold Addr.add; simp
   refine (Tryz.strings_Join b o c0 (x :: l) a1 w (fun j y hy => by rw [← e j]; exact cell j y hy) (World.block_lt_of_cell? w ⟨b, o + 0, none⟩ (by rw [← e 0]; exact cell 0 x rfl)) hc.1 hc0 hc.2).mono fun e w' ⟨h1, h2⟩ => ⟨h1, h2⟩
 ·rw [if_neg hc] at h; cases h
def impl_VersionText.f (k : Nat) (a0_0 : Int) (a0_1 : Int) (a0_2 : Int) (l0_3 : List ByteArray) : Option (ByteArray) := (impl_VersionOk.f k a0_0 a0_1 a0_2 l0_3).bind fun t554 => (if t554 = true then ((impl_DecText.f a0_0).bind fun t555 => (if t555.size + 1 ≤ 9223372036854775807 then ((impl_DecText.f a0_1).bind fun t556 => (if (t555 ++ (⟨#[46]⟩ : ByteArray)).size + t556.size ≤ 9223372036854775807 then (if ((t555 ++ (⟨#[46]⟩ : ByteArray)) ++ t556).size + 1 ≤ 9223372036854775807 then ((impl_DecText.f a0_2).bind fun t557 => (if (((t555 ++ (⟨#[46]⟩ : ByteArray)) ++ t556) ++ (⟨#[46]⟩ : ByteArray)).size + t557.size ≤ 9223372036854775807 then (if (l0_3.length : Int) > 0 then ((strings_Join.f l0_3 (⟨#[46]⟩ : ByteArray)).bind fun t558 => (if 1 + t558.size ≤ 9223372036854775807 then (if ((((t555 ++ (⟨#[46]⟩ : ByteArray)) ++ t556) ++ (⟨#[46]⟩ : ByteArray)) ++ t557).size + ((⟨#[45]⟩ : ByteArray) ++ t558).size ≤ 9223372036854775807 then (some (((((t555 ++ (⟨#[46]⟩ : ByteArray)) ++ t556) ++ (⟨#[46]⟩ : ByteArray)) ++ t557) ++ ((⟨#[45]⟩ : ByteArray) ++ t558))) else (none)) else (none))) else (some ((((t555 ++ (⟨#[46]⟩ : ByteArray)) ++ t556) ++ (⟨#[46]⟩ : ByteArray)) ++ t557))) else (none))) else (none)) else (none))) else (none))) else (some (⟨#[]⟩ : ByteArray)))
def impl_ReadVersion.f (k : Nat) (a0 : ByteArray) : Option (Int × Int × Int × List ByteArray × Bool) := (strings_Cut.f a0 (⟨#[45]⟩ : ByteArray)).bind fun bt560 => ((strings_Split.f bt560.1 (⟨#[46]⟩ : ByteArray)).bind fun t563 => (if (t563.length : Int) = 3 then (if 0 < (t563.length : Int) then ((impl_ReadDec.f (rdOf ByteArray.empty t563 0)).bind fun t567 => (if 1 < (t563.length : Int) then ((impl_ReadDec.f (rdOf ByteArray.empty t563 1)).bind fun t569 => (if 2 < (t563.length : Int) then ((impl_ReadDec.f (rdOf ByteArray.empty t563 2)).bind fun t571 => (if bt560.2.2 = true then ((strings_Split.f bt560.2.1 (⟨#[46]⟩ : ByteArray)).bind fun t573 => ((impl_VersionText.f k t567 t569 t571 t573).bind fun t576 => (if t576.toList = a0.toList then (if a0.toList = ([] : List UInt8) then (some (0, 0, 0, ([] : List ByteArray), false)) else (some (t567, t569, t571, t573, true))) else (some (0, 0, 0, ([] : List ByteArray), false))))) else ((impl_VersionText.f k t567 t569 t571 ([] : List ByteArray)).bind fun t577 => (if t577.toList = a0.toList then (if a0.toList = ([] : List UInt8) then (some (0, 0, 0, ([] : List ByteArray), false)) else (some (t567, t569, t571, ([] : List ByteArray), true))) else (some (0, 0, 0, ([] : List ByteArray), false)))))) else (none))) else (none))) else (none)) else (some (0, 0, 0, ([] : List ByteArray), false))))
def impl_compareInts.f (a0 : Int) (a1 : Int) : Option (Int) := if a0 < a1 then (some (-1)) else (if a0 > a1 then (some 1) else (some 0))
def strings_TrimLeft.f (a0 : ByteArray) (a1 : ByteArray) : Option ByteArray := if h : a1.size = 1 then (if (a1[0]'(by omega)).toNat < 128 ∧ a0.size ≤ 9223372036854775807 then some ⟨(Lib.trimLeftB a0.data.toList (a1[0]'(by omega))).toArray⟩ else none) else none
theorem strings_TrimLeft.calls (a0 : ByteArray) (a1 : ByteArray) (r : ByteArray) (w : World) (h : strings_TrimLeft.f a0 a1 = some r) :
  Calls Tryz.prog 52 #[.string a0, .string a1] w fun e w' => e = .returned (.string r) ∧ Drawn0 w w' := by
 unfold strings_TrimLeft.f at h
 split at h
 ·rename_i h1
  split at h
  ·rename_i h2
   obtain rfl := Option.some.inj h
   obtain ⟨c, rfl⟩ := Lib.one_byte a1 h1
   exact (Tryz.strings_TrimLeft_one a0 c h2.1 w).mono fun e w' ⟨h1, h2⟩ => ⟨h1, h2 ▸ Drawn0.refl _⟩
  ·cases h
 ·cases h
def strings_Compare.f (a0 : ByteArray) (a1 : ByteArray) : Option Int := some (Lib.compareBytes a0.data.toList a1.data.toList)
theorem strings_Compare.calls (a0 : ByteArray) (a1 : ByteArray) (r : Int) (w : World) (h : strings_Compare.f a0 a1 = some r) :
  Calls Tryz.prog 53 #[.string a0, .string a1] w fun e w' => e = .returned (.int .i64 r) ∧ Drawn0 w w' := by
 obtain rfl := Option.some.inj h
 exact (Tryz.strings_Compare a0 a1 w).mono fun e w' ⟨h1, h2⟩ => ⟨h1, h2 ▸ Drawn0.refl _⟩
def impl_comparePre.j0 : Nat → ByteArray → ByteArray → Bool → Bool → Bool → Option (Int)
 | 0, _, _, _, _, _ => none
 | k + 1, x0, x1, x5, x6, x12 => if x12 = true then ((strings_TrimLeft.f x0 (⟨#[48]⟩ : ByteArray)).bind fun t594 => ((strings_TrimLeft.f x1 (⟨#[48]⟩ : ByteArray)).bind fun t595 => ((impl_compareInts.f (t594.size : Int) (t595.size : Int)).bind fun t596 => (if t596 = 0 then ((strings_Compare.f t594 t595).bind fun t597 => (some t597)) else (some t596))))) else (if x5 = true then (some (-1)) else (if x6 = true then (some 1) else ((strings_Compare.f x0 x1).bind fun t598 => (some t598))))
def impl_comparePre.f (k : Nat) (a0 : ByteArray) (a1 : ByteArray) : Option (Int) := (impl_isNumber.f k a0).bind fun t592 => ((impl_isNumber.f k a1).bind fun t593 => (if t592 = true then (impl_comparePre.j0 k a0 a1 t592 t593 t593) else (impl_comparePre.j0 k a0 a1 t592 t593 false)))
mutual
def impl_CompareVersion.l0 : Nat → List Int → Int → Int → Int → Int → Int → List ByteArray → Int → Int → Int → List ByteArray → Option (Int)
 | 0, _, _, _, _, _, _, _, _, _, _, _ => none
 | k + 1, x24, x25, x26, x600000, x600001, x600002, x600003, x601000, x601001, x601002, x601003 => if x26 < x25 then (if 0 ≤ x26 then (if x26 < (x24.length : Int) then (if (rd x24 x26) = 0 then (impl_CompareVersion.l0 k x24 x25 (wrap64 (x26 + 1)) x600000 x600001 x600002 x600003 x601000 x601001 x601002 x601003) else (some (rd x24 x26))) else (none)) else (none)) else (if (((x600003.length : Int) == 0) != ((x601003.length : Int) == 0)) = true then ((impl_compareInts.f (x601003.length : Int) (x600003.length : Int)).bind fun t608 => (some t608)) else (impl_CompareVersion.l1 k (mn (x600003.length : Int) (x601003.length : Int)) 0 x600000 x600001 x600002 x600003 x601000 x601001 x601002 x601003))
def impl_CompareVersion.l1 : Nat → Int → Int → Int → Int → Int → List ByteArray → Int → Int → Int → List ByteArray → Option (Int)
 | 0, _, _, _, _, _, _, _, _, _, _ => none
 | k + 1, x56, x57, x600000, x600001, x600002, x600003, x601000, x601001, x601002, x601003 => if x57 < x56 then (if 0 ≤ x57 then (if x57 < (x600003.length : Int) then (if x57 < (x601003.length : Int) then ((impl_comparePre.f k (rdOf ByteArray.empty x600003 x57) (rdOf ByteArray.empty x601003 x57)).bind fun t611 => (if t611 = 0 then (impl_CompareVersion.l1 k x56 (wrap64 (x57 + 1)) x600000 x600001 x600002 x600003 x601000 x601001 x601002 x601003) else (some t611))) else (none)) else (none)) else (none)) else ((impl_compareInts.f (x600003.length : Int) (x601003.length : Int)).bind fun t612 => (some t612))
end
def impl_CompareVersion.f (k : Nat) (a0_0 : Int) (a0_1 : Int) (a0_2 : Int) (l0_3 : List ByteArray) (a1_0 : Int) (a1_1 : Int) (a1_2 : Int) (l1_3 : List ByteArray) : Option (Int) := (impl_compareInts.f a0_0 a1_0).bind fun t601 => ((impl_compareInts.f a0_1 a1_1).bind fun t602 => ((impl_compareInts.f a0_2 a1_2).bind fun t603 => ((some (([t601, t602, t603] : List Int) : List Int)).bind fun y604 => (impl_CompareVersion.l0 k y604 (y604.length : Int) 0 a0_0 a0_1 a0_2 l0_3 a1_0 a1_1 a1_2 l1_3))))
def impl_isVersion.f (k : Nat) (a0 : ByteArray) : Option (Bool) := (impl_ReadVersion.f k a0).bind fun bt578 => (some bt578.2.2.2.2)
def impl_RangeOk.l0 : Nat → List (S45) → List (S45) → Int → Int → Option (Bool)
 | 0, _, _, _, _ => none
 | k + 1, x0, x5, x6, x7 => if x7 < x6 then (if 0 ≤ x7 then (if x7 < (x5.length : Int) then (if ((rd_T45 x5 x7).f0).toList = ([] : List UInt8) then (if ((rd_T45 x5 x7).f1).toList = ([] : List UInt8) then (impl_RangeOk.l0 k x0 x5 x6 (wrap64 (x7 + 1))) else ((impl_isVersion.f k ((rd_T45 x5 x7).f1)).bind fun t589 => (if t589 = true then (impl_RangeOk.l0 k x0 x5 x6 (wrap64 (x7 + 1))) else (some false)))) else ((impl_isVersion.f k ((rd_T45 x5 x7).f0)).bind fun t590 => (if t590 = true then (if ((rd_T45 x5 x7).f1).toList = ([] : List UInt8) then (impl_RangeOk.l0 k x0 x5 x6 (wrap64 (x7 + 1))) else ((impl_isVersion.f k ((rd_T45 x5 x7).f1)).bind fun t591 => (if t591 = true then (impl_RangeOk.l0 k x0 x5 x6 (wrap64 (x7 + 1))) else (some false)))) else (some false)))) else (none)) else (none)) else ((impl_within.f (x0.length : Int) 1 8).bind fun t586 => (some t586))
def impl_RangeOk.f (k : Nat) (l0 : List (S45)) : Option (Bool) := impl_RangeOk.l0 k l0 l0 (l0.length : Int) 0
def impl_compareTexts.f (k : Nat) (a0 : ByteArray) (a1 : ByteArray) : Option (Int) := (impl_ReadVersion.f k a0).bind fun bt613 => ((impl_ReadVersion.f k a1).bind fun bt621 => ((impl_CompareVersion.f k bt613.1 bt613.2.1 bt613.2.2.1 bt613.2.2.2.1 bt621.1 bt621.2.1 bt621.2.2.1 bt621.2.2.2.1).bind fun t629 => (some t629)))
mutual
def impl_In.j0 : Nat → ByteArray → List (S45) → Bool → Int → Int → Int → List ByteArray → Option (Bool)
 | 0, _, _, _, _, _, _, _ => none
 | k + 1, x0, x1, x22, x638000, x638001, x638002, x638003 => if x22 = true then (some false) else (impl_In.l0 k x0 x1 (x1.length : Int) 0 x638000 x638001 x638002 x638003)
def impl_In.l0 : Nat → ByteArray → List (S45) → Int → Int → Int → Int → Int → List ByteArray → Option (Bool)
 | 0, _, _, _, _, _, _, _, _ => none
 | k + 1, x0, x23, x24, x25, x638000, x638001, x638002, x638003 => if x25 < x24 then (if 0 ≤ x25 then (if x25 < (x23.length : Int) then (if ((rd_T45 x23 x25).f0).toList = ([] : List UInt8) then (if ((rd_T45 x23 x25).f1).toList = ([] : List UInt8) then (impl_In.j2 k x0 x23 x24 x25 false x638000 x638001 x638002 x638003 ((rd_T45 x23 x25).f0) ((rd_T45 x23 x25).f1)) else ((impl_compareTexts.f k x0 ((rd_T45 x23 x25).f1)).bind fun t641 => (impl_In.j2 k x0 x23 x24 x25 (decide (t641 ≥ 0)) x638000 x638001 x638002 x638003 ((rd_T45 x23 x25).f0) ((rd_T45 x23 x25).f1)))) else ((impl_compareTexts.f k x0 ((rd_T45 x23 x25).f0)).bind fun t642 => (if t642 < 0 then (impl_In.j2 k x0 x23 x24 x25 true x638000 x638001 x638002 x638003 ((rd_T45 x23 x25).f0) ((rd_T45 x23 x25).f1)) else (if ((rd_T45 x23 x25).f1).toList = ([] : List UInt8) then (impl_In.j2 k x0 x23 x24 x25 false x638000 x638001 x638002 x638003 ((rd_T45 x23 x25).f0) ((rd_T45 x23 x25).f1)) else ((impl_compareTexts.f k x0 ((rd_T45 x23 x25).f1)).bind fun t643 => (impl_In.j2 k x0 x23 x24 x25 (decide (t643 ≥ 0)) x638000 x638001 x638002 x638003 ((rd_T45 x23 x25).f0) ((rd_T45 x23 x25).f1))))))) else (none)) else (none)) else (some false)
def impl_In.j2 : Nat → ByteArray → List (S45) → Int → Int → Bool → Int → Int → Int → List ByteArray → ByteArray → ByteArray → Option (Bool)
 | 0, _, _, _, _, _, _, _, _, _, _, _ => none
 | k + 1, x0, x23, x24, x25, x50, x638000, x638001, x638002, x638003, x641000, x641001 => if x50 = true then (impl_In.l0 k x0 x23 x24 (wrap64 (x25 + 1)) x638000 x638001 x638002 x638003) else ((impl_ReadVersion.f k x641000).bind fun bt644 => (if (x638003.length : Int) = 0 then (some true) else (if (bt644.2.2.2.1.length : Int) > 0 then (if bt644.1 = x638000 then (if bt644.2.1 = x638001 then (if bt644.2.2.1 = x638002 then (some true) else (impl_In.l0 k x0 x23 x24 (wrap64 (x25 + 1)) x638000 x638001 x638002 x638003)) else (impl_In.l0 k x0 x23 x24 (wrap64 (x25 + 1)) x638000 x638001 x638002 x638003)) else (impl_In.l0 k x0 x23 x24 (wrap64 (x25 + 1)) x638000 x638001 x638002 x638003)) else (impl_In.l0 k x0 x23 x24 (wrap64 (x25 + 1)) x638000 x638001 x638002 x638003))))
end
def impl_In.f (k : Nat) (a0 : ByteArray) (l1 : List (S45)) : Option (Bool) := (impl_ReadVersion.f k a0).bind fun bt630 => (if bt630.2.2.2.2 = true then ((impl_RangeOk.f k l1).bind fun t638 => (impl_In.j0 k a0 l1 (!t638) bt630.1 bt630.2.1 bt630.2.2.1 bt630.2.2.2.1)) else (impl_In.j0 k a0 l1 true bt630.1 bt630.2.1 bt630.2.2.1 bt630.2.2.2.1))
def spec_DrawHoles.f (k : Nat) (l0 : List Int) : Option (List ByteArray × (List (S45))) := (spec_l01New.f k l0).bind fun bt658 => ((spec_l02List.f k bt658.1 bt658.2.1 bt658.2.2).bind fun bt662 => ((spec_l02List.f k bt658.1 bt662.2.1 bt662.2.2).bind fun bt667 => (if bt662.1.length + bt667.1.length < 8796093022208 then ((spec_l03Range.f k bt658.1 bt667.2.1 bt667.2.2).bind fun bt675 => (some ((bt662.1 ++ bt667.1), bt675.1))) else (none))))
theorem spec_DrawHoles.mono : ∀ a0 k, LeO (spec_DrawHoles.f k a0) (spec_DrawHoles.f (k + 1) a0) := by
 intro a0 k
 unfold spec_DrawHoles.f
 repeat' first
   | (with_reducible exact spec_l01New.mono _ _) | (with_reducible exact spec_l02List.mono _ _ _ _) | (with_reducible exact spec_l03Range.mono _ _ _ _) | (with_reducible exact LeO.refl _) | (with_reducible exact LeO.none _) | (with_reducible refine LeO.ite ?_ ?_) | (with_reducible refine LeO.bind ?_ (fun _ => ?_)) | exact spec_l01New.mono _ _ | exact spec_l02List.mono _ _ _ _ | exact spec_l03Range.mono _ _ _ _ | exact LeO.none _ | refine LeO.ite ?_ ?_ | refine LeO.bind ?_ (fun _ => ?_)
mutual
def spec_SortVersions.l0 : Nat → List ByteArray → List ByteArray → Int → Option (List ByteArray)
 | 0, _, _, _ => none
 | k + 1, x0, x3, x4 => if x4 < (x0.length : Int) then (if 0 ≤ x4 then ((spec_ReadVersion.f k (rdOf ByteArray.empty x0 x4)).bind fun bt1 => (if bt1.2.2.2.2 = true then (spec_SortVersions.l1 k x0 x3 x4 0 bt1.1 bt1.2.1 bt1.2.2.1 bt1.2.2.2.1) else (spec_SortVersions.l0 k x0 x3 (wrap64 (x4 + 1))))) else (none)) else (some x3)
def spec_SortVersions.j1 : Nat → List ByteArray → List ByteArray → Int → Int → Option (List ByteArray)
 | 0, _, _, _, _ => none
 | k + 1, x0, x3, x4, x7 => if x7 < (x3.length : Int) then (if 0 ≤ x7 then (if 0 ≤ x4 then (if x4 < (x0.length : Int) then (if (rdOf ByteArray.empty x3 x7).toList = (rdOf ByteArray.empty x0 x4).toList then (spec_SortVersions.l0 k x0 x3 (wrap64 (x4 + 1))) else (if 0 ≤ x7 then (if x7 ≤ (x3.length : Int) then (if 0 ≤ x4 then (if x4 < (x0.length : Int) then (if x3.length + 1 < 8796093022208 then (spec_SortVersions.l0 k x0 (([] ++ (x3.take x7.toNat).drop (Int.toNat 0)) ++ [rdOf ByteArray.empty x0 x4] ++ (x3.take (Int.toNat (x3.length : Int))).drop x7.toNat) (wrap64 (x4 + 1))) else none) else none) else none) else none) else none)) else none) else none) else none) else (if 0 ≤ x7 then (if x7 ≤ (x3.length : Int) then (if 0 ≤ x4 then (if x4 < (x0.length : Int) then (if x3.length + 1 < 8796093022208 then (spec_SortVersions.l0 k x0 (([] ++ (x3.take x7.toNat).drop (Int.toNat 0)) ++ [rdOf ByteArray.empty x0 x4] ++ (x3.take (Int.toNat (x3.length : Int))).drop x7.toNat) (wrap64 (x4 + 1))) else none) else none) else none) else none) else none)
def spec_SortVersions.l1 : Nat → List ByteArray → List ByteArray → Int → Int → Int → Int → Int → List ByteArray → Option (List ByteArray)
 | 0, _, _, _, _, _, _, _, _ => none
 | k + 1, x0, x3, x4, x7, x900000, x900001, x900002, x900003 => if x7 < (x3.length : Int) then (if 0 ≤ x7 then ((spec_ReadVersion.f k (rdOf ByteArray.empty x3 x7)).bind fun bt2 => ((spec_CompareVersion.f k bt2.1 bt2.2.1 bt2.2.2.1 bt2.2.2.2.1 x900000 x900001 x900002 x900003).bind fun t3 => (if t3 ≥ 0 then (spec_SortVersions.j1 k x0 x3 x4 x7) else (spec_SortVersions.l1 k x0 x3 x4 (wrap64 (x7 + 1)) x900000 x900001 x900002 x900003)))) else (none)) else (spec_SortVersions.j1 k x0 x3 x4 x7)
end
def spec_SortVersions.f (k : Nat) (l0 : List ByteArray) : Option (List ByteArray) := spec_SortVersions.l0 k l0 ([] : List ByteArray) 0
def spec_l03Takes.f (k : Nat) (a0_0 : ByteArray) (a0_1 : ByteArray) (a1_0 : Int) (a1_1 : Int) (a1_2 : Int) (l1_3 : List ByteArray) : Option (Bool) := (spec_ReadVersion.f k a0_0).bind fun bt699 => ((spec_ReadVersion.f k a0_1).bind fun bt707 => (if bt699.2.2.2.2 = true then ((spec_CompareVersion.f k a1_0 a1_1 a1_2 l1_3 bt699.1 bt699.2.1 bt699.2.2.1 bt699.2.2.2.1).bind fun t715 => (if t715 < 0 then (some false) else (if bt707.2.2.2.2 = true then ((spec_CompareVersion.f k a1_0 a1_1 a1_2 l1_3 bt707.1 bt707.2.1 bt707.2.2.1 bt707.2.2.2.1).bind fun t716 => (if t716 ≥ 0 then (some false) else (if (l1_3.length : Int) = 0 then (some true) else (if (bt699.2.2.2.1.length : Int) > 0 then (if bt699.1 = a1_0 then (if bt699.2.1 = a1_1 then (some (bt699.2.2.1 == a1_2)) else (some false)) else (some false)) else (some false))))) else (if (l1_3.length : Int) = 0 then (some true) else (if (bt699.2.2.2.1.length : Int) > 0 then (if bt699.1 = a1_0 then (if bt699.2.1 = a1_1 then (some (bt699.2.2.1 == a1_2)) else (some false)) else (some false)) else (some false)))))) else (if bt707.2.2.2.2 = true then ((spec_CompareVersion.f k a1_0 a1_1 a1_2 l1_3 bt707.1 bt707.2.1 bt707.2.2.1 bt707.2.2.2.1).bind fun t717 => (if t717 ≥ 0 then (some false) else (if (l1_3.length : Int) = 0 then (some true) else (some false)))) else (if (l1_3.length : Int) = 0 then (some true) else (some false)))))
def spec_In.l0 : Nat → List (S45) → Bool → Int → Int → Int → Int → List ByteArray → Option (Bool)
 | 0, _, _, _, _, _, _, _ => none
 | k + 1, x1, x6, x7, x726000, x726001, x726002, x726003 => if x7 < (x1.length : Int) then (if x6 = true then ((spec_RangeOk.f k x1).bind fun t726 => (if t726 = true then (if 0 ≤ x7 then ((spec_l03Takes.f k ((rd_T45 x1 x7).f0) ((rd_T45 x1 x7).f1) x726000 x726001 x726002 x726003).bind fun t728 => (if t728 = true then (some true) else (spec_In.l0 k x1 x6 (wrap64 (x7 + 1)) x726000 x726001 x726002 x726003))) else (none)) else (spec_In.l0 k x1 x6 (wrap64 (x7 + 1)) x726000 x726001 x726002 x726003))) else (spec_In.l0 k x1 x6 (wrap64 (x7 + 1)) x726000 x726001 x726002 x726003)) else (some false)
def spec_In.f (k : Nat) (a0 : ByteArray) (l1 : List (S45)) : Option (Bool) := (spec_ReadVersion.f k a0).bind fun bt718 => (spec_In.l0 k l1 bt718.2.2.2.2 0 bt718.1 bt718.2.1 bt718.2.2.1 bt718.2.2.2.1)
def spec_Pick.l0 : Nat → List (S45) → List ByteArray → ByteArray → Int → Option (ByteArray)
 | 0, _, _, _, _ => none
 | k + 1, x1, x5, x6, x7 => if x7 < (x5.length : Int) then (if 0 ≤ x7 then ((spec_In.f k (rdOf ByteArray.empty x5 x7) x1).bind fun t733 => (if t733 = true then (spec_Pick.l0 k x1 x5 (rdOf ByteArray.empty x5 x7) (wrap64 (x7 + 1))) else (spec_Pick.l0 k x1 x5 x6 (wrap64 (x7 + 1))))) else (none)) else (some x6)
def spec_Pick.f (k : Nat) (l0 : List ByteArray) (l1 : List (S45)) : Option (ByteArray) := (spec_SortVersions.f k l0).bind fun t729 => (spec_Pick.l0 k l1 t729 (⟨#[]⟩ : ByteArray) 0)
mutual
def spec_Holes.l0 : Nat → List (S45) → List ByteArray → Int → Int → Int → Option (List ByteArray)
 | 0, _, _, _, _, _ => none
 | k + 1, x1, x5, x6, x7, x8 => if x8 < (x5.length : Int) then (if 0 ≤ x8 then ((spec_In.f k (rdOf ByteArray.empty x5 x8) x1).bind fun t741 => (if t741 = true then (if x6 > x8 then (spec_Holes.l0 k x1 x5 x8 x8 (wrap64 (x8 + 1))) else (spec_Holes.l0 k x1 x5 x6 x8 (wrap64 (x8 + 1)))) else (spec_Holes.l0 k x1 x5 x6 x7 (wrap64 (x8 + 1))))) else (none)) else (spec_Holes.l1 k x1 x5 x7 (([] : List ByteArray)) x6)
def spec_Holes.l1 : Nat → List (S45) → List ByteArray → Int → List ByteArray → Int → Option (List ByteArray)
 | 0, _, _, _, _, _ => none
 | k + 1, x1, x5, x7, x9, x10 => if x10 < x7 then (if 0 ≤ x10 then (if x10 < (x5.length : Int) then ((spec_In.f k (rdOf ByteArray.empty x5 x10) x1).bind fun t746 => (if t746 = true then (spec_Holes.l1 k x1 x5 x7 x9 (wrap64 (x10 + 1))) else (if x9.length < 8796093022208 then (spec_Holes.l1 k x1 x5 x7 (x9 ++ [rdOf ByteArray.empty x5 x10]) (wrap64 (x10 + 1))) else (none)))) else (none)) else (none)) else (some x9)
end
def spec_Holes.f (k : Nat) (l0 : List ByteArray) (l1 : List (S45)) : Option (List ByteArray) := (spec_SortVersions.f k l0).bind fun t737 => (spec_Holes.l0 k l1 t737 (t737.length : Int) (-1) 0)
end Go.Proofs.YtoidompkofomjaaGreatDoor.G

end
section
namespace Go.Proofs.YtoidompkofomjaaGreatDoor.G
open Go.RowKit Go.Proofs.YtoidompkofomjaaGreatDoorW.PrintWords Go.Proofs.YtoidompkofomjaaGreatDoorW.PrintLast Go.Proofs.YtoidompkofomjaaGreatDoorW.PrintMore
set_option linter.unusedVariables false
set_option linter.unusedSimpArgs false
def impl_SortPre.l0 : Nat → List ByteArray → List ByteArray → Int → Int → Option (List ByteArray)
 | 0, _, _, _, _ => none
 | k + 1, x3, x7, x8, x9 => if x9 < x8 then (if 0 ≤ x9 then (if x9 < (x7.length : Int) then ((impl_isVersion.f k (rdOf ByteArray.empty x7 x9)).bind fun t1 => (if t1 = true then (if x3.length < 8796093022208 then (impl_SortPre.l0 k (x3 ++ [rdOf ByteArray.empty x7 x9]) x7 x8 (wrap64 (x9 + 1))) else (none)) else (impl_SortPre.l0 k x3 x7 x8 (wrap64 (x9 + 1))))) else (none)) else (none)) else (some x3)
def impl_SortPre.f (k : Nat) (l0 : List ByteArray) : Option (List ByteArray) := impl_SortPre.l0 k ([] : List ByteArray) l0 (l0.length : Int) 0
end Go.Proofs.YtoidompkofomjaaGreatDoor.G

end
