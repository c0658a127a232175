/- A part of the proof that the law FnExactOrder answers true at every input that its row speaks of. Conditions: the row's own. -/
import Derived.Test.YtieohddolkeegaaGreatDoorKFnExactOrder0
import Derived.Test.YtieohddolkeegaaGreatDoorOpZ
section
namespace Go.Proofs.YtieohddolkeegaaGreatDoor.G
open Go.RowKit Go.Proofs.YtieohddolkeegaaGreatDoorW.PrintWords Go.Proofs.YtieohddolkeegaaGreatDoorW.PrintLast Go.Proofs.YtieohddolkeegaaGreatDoorW.PrintMore
attribute [local go_sem] max2_int min2_int max_two min_two max_three min_three max_four min_four
attribute [local go_sem high] Go.Proofs.YtieohddolkeegaaGreatDoor.G.str_gtr Go.Proofs.YtieohddolkeegaaGreatDoor.G.str_leq Go.Proofs.YtieohddolkeegaaGreatDoor.G.str_geq
set_option linter.unusedVariables false
set_option linter.unusedSimpArgs false
def laws_szStringS.l0 : Nat → List ByteArray → Int → Int → Option (Int)
 | 0, _, _, _ => none
 | k + 1, x0, x1, x5 => if x5 < (x0.length : Int) then (if 0 ≤ x5 then (if (wrap64 (x1 - ((rdOf ByteArray.empty x0 x5).size : Int))) < 0 then (some (-1)) else (laws_szStringS.l0 k x0 (wrap64 (x1 - ((rdOf ByteArray.empty x0 x5).size : Int))) (wrap64 (x5 + 1)))) else (none)) else (some x1)
def laws_szStringS.f (k : Nat) (l0 : List ByteArray) (a1 : Int) : Option (Int) := if (wrap64 (a1 - (l0.length : Int))) < 0 then (some (-1)) else (laws_szStringS.l0 k l0 (wrap64 (a1 - (l0.length : Int))) 0)
def laws_szSum.f (a0_0 : ByteArray) (a0_1 : ByteArray) (a1 : Int) : Option (Int) := if (wrap64 (a1 - (a0_0.size : Int))) < 0 then (some (-1)) else (if (wrap64 ((wrap64 (a1 - (a0_0.size : Int))) - (a0_1.size : Int))) < 0 then (some (-1)) else (some (wrap64 ((wrap64 (a1 - (a0_0.size : Int))) - (a0_1.size : Int)))))
def laws_szSumS.l0 : Nat → List (S185) → Int → Int → Option (Int)
 | 0, _, _, _ => none
 | k + 1, x0, x1, x5 => if x5 < (x0.length : Int) then (if 0 ≤ x5 then ((laws_szSum.f ((rd_T185 x0 x5).f0) ((rd_T185 x0 x5).f1) x1).bind fun t389 => (if t389 < 0 then (some (-1)) else (laws_szSumS.l0 k x0 t389 (wrap64 (x5 + 1))))) else (none)) else (some x1)
def laws_szSumS.f (k : Nat) (l0 : List (S185)) (a1 : Int) : Option (Int) := if (wrap64 (a1 - (l0.length : Int))) < 0 then (some (-1)) else (laws_szSumS.l0 k l0 (wrap64 (a1 - (l0.length : Int))) 0)
def laws_szPack.f (k : Nat) (a0_0 : ByteArray) (a0_1 : ByteArray) (a0_2 : ByteArray) (l0_3 : List (S185)) (a0_4 : Bool) (l0_5 : List ByteArray) (a1 : Int) : Option (Int) := if (wrap64 (a1 - (a0_0.size : Int))) < 0 then (some (-1)) else (if (wrap64 ((wrap64 (a1 - (a0_0.size : Int))) - (a0_1.size : Int))) < 0 then (some (-1)) else (if (wrap64 ((wrap64 ((wrap64 (a1 - (a0_0.size : Int))) - (a0_1.size : Int))) - (a0_2.size : Int))) < 0 then (some (-1)) else ((laws_szSumS.f k l0_3 (wrap64 ((wrap64 ((wrap64 (a1 - (a0_0.size : Int))) - (a0_1.size : Int))) - (a0_2.size : Int)))).bind fun t391 => (if t391 < 0 then (some (-1)) else ((laws_szStringS.f k l0_5 t391).bind fun t392 => (if t392 < 0 then (some (-1)) else (some t392)))))))
def laws_szPackS.l0 : Nat → List (S139) → Int → Int → Option (Int)
 | 0, _, _, _ => none
 | k + 1, x0, x1, x5 => if x5 < (x0.length : Int) then (if 0 ≤ x5 then ((laws_szPack.f k ((rd_T139 x0 x5).f0) ((rd_T139 x0 x5).f1) ((rd_T139 x0 x5).f2) ((rd_T139 x0 x5).f3) ((rd_T139 x0 x5).f4) ((rd_T139 x0 x5).f5) x1).bind fun t394 => (if t394 < 0 then (some (-1)) else (laws_szPackS.l0 k x0 t394 (wrap64 (x5 + 1))))) else (none)) else (some x1)
def laws_szPackS.f (k : Nat) (l0 : List (S139)) (a1 : Int) : Option (Int) := if (wrap64 (a1 - (l0.length : Int))) < 0 then (some (-1)) else (laws_szPackS.l0 k l0 (wrap64 (a1 - (l0.length : Int))) 0)
def laws_szGraph.f (k : Nat) (l0_0 : List ByteArray) (l0_1 : List (S139)) (a1 : Int) : Option (Int) := (laws_szStringS.f k l0_0 a1).bind fun t396 => (if t396 < 0 then (some (-1)) else ((laws_szPackS.f k l0_1 t396).bind fun t397 => (if t397 < 0 then (some (-1)) else (some t397))))
def laws_toStringS.l0 : Nat → List ByteArray → List ByteArray → Int → Option (List ByteArray)
 | 0, _, _, _ => none
 | k + 1, x0, x3, x4 => if x4 < (x0.length : Int) then (if 0 ≤ x4 then (if x4 < (x3.length : Int) then (laws_toStringS.l0 k x0 (x3.set (x4 : Int).toNat (rdOf ByteArray.empty x0 x4)) (wrap64 (x4 + 1))) else (none)) else (none)) else (some x3)
def laws_toStringS.f (k : Nat) (l0 : List ByteArray) : Option (List ByteArray) := if 0 ≤ (l0.length : Int) then (if ((l0.length : Int) : Int).toNat ≤ 17592186044416 then (laws_toStringS.l0 k l0 (List.replicate ((l0.length : Int) : Int).toNat (⟨#[]⟩ : ByteArray)) 0) else (none)) else (none)
def laws_toSum.f (a0_0 : ByteArray) (a0_1 : ByteArray) : Option (ByteArray × ByteArray) := some (a0_0, a0_1)
def laws_toSumS.l0 : Nat → List (S185) → List (S130) → Int → Option ((List (S130)))
 | 0, _, _, _ => none
 | k + 1, x0, x3, x4 => if x4 < (x0.length : Int) then (if 0 ≤ x4 then ((laws_toSum.f ((rd_T185 x0 x4).f0) ((rd_T185 x0 x4).f1)).bind fun bt410 => (if x4 < (x3.length : Int) then (laws_toSumS.l0 k x0 (x3.set (x4 : Int).toNat (⟨bt410.1, bt410.2⟩ : S130)) (wrap64 (x4 + 1))) else (none))) else (none)) else (some x3)
def laws_toSumS.f (k : Nat) (l0 : List (S185)) : Option ((List (S130))) := if 0 ≤ (l0.length : Int) then (if ((l0.length : Int) : Int).toNat ≤ 8796093022208 then (laws_toSumS.l0 k l0 (List.replicate ((l0.length : Int) : Int).toNat z130) 0) else (none)) else (none)
def laws_toPack.f (k : Nat) (a0_0 : ByteArray) (a0_1 : ByteArray) (a0_2 : ByteArray) (l0_3 : List (S185)) (a0_4 : Bool) (l0_5 : List ByteArray) : Option (ByteArray × ByteArray × ByteArray × (List (S130)) × Bool × List ByteArray) := (laws_toSumS.f k l0_3).bind fun t416 => ((laws_toStringS.f k l0_5).bind fun t419 => (some (a0_0, a0_1, a0_2, t416, a0_4, t419)))
def laws_toPackS.l0 : Nat → List (S139) → List (S47) → Int → Option ((List (S47)))
 | 0, _, _, _ => none
 | k + 1, x0, x3, x4 => if x4 < (x0.length : Int) then (if 0 ≤ x4 then ((laws_toPack.f k ((rd_T139 x0 x4).f0) ((rd_T139 x0 x4).f1) ((rd_T139 x0 x4).f2) ((rd_T139 x0 x4).f3) ((rd_T139 x0 x4).f4) ((rd_T139 x0 x4).f5)).bind fun bt426 => (if x4 < (x3.length : Int) then (laws_toPackS.l0 k x0 (x3.set (x4 : Int).toNat (⟨bt426.1, bt426.2.1, bt426.2.2.1, bt426.2.2.2.1, bt426.2.2.2.2.1, bt426.2.2.2.2.2⟩ : S47)) (wrap64 (x4 + 1))) else (none))) else (none)) else (some x3)
def laws_toPackS.f (k : Nat) (l0 : List (S139)) : Option ((List (S47))) := if 0 ≤ (l0.length : Int) then (if ((l0.length : Int) : Int).toNat ≤ 2706490160679 then (laws_toPackS.l0 k l0 (List.replicate ((l0.length : Int) : Int).toNat z47) 0) else (none)) else (none)
def laws_toGraph.f (k : Nat) (l0_0 : List ByteArray) (l0_1 : List (S139)) : Option (List ByteArray × (List (S47))) := (laws_toStringS.f k l0_0).bind fun t440 => ((laws_toPackS.f k l0_1).bind fun t443 => (some (t440, t443)))
def laws_eqStringS.l0 : Nat → List ByteArray → List ByteArray → Int → Option (Bool)
 | 0, _, _, _ => none
 | k + 1, x0, x1, x5 => if x5 < (x0.length : Int) then (if 0 ≤ x5 then (if x5 < (x1.length : Int) then (if (rdOf ByteArray.empty x0 x5).toList = (rdOf ByteArray.empty x1 x5).toList then (laws_eqStringS.l0 k x0 x1 (wrap64 (x5 + 1))) else (some false)) else (none)) else (none)) else (some true)
def laws_eqStringS.f (k : Nat) (l0 : List ByteArray) (l1 : List ByteArray) : Option (Bool) := if (l0.length : Int) = (l1.length : Int) then (laws_eqStringS.l0 k l0 l1 0) else (some false)
def laws_eqSum.f (a0_0 : ByteArray) (a0_1 : ByteArray) (a1_0 : ByteArray) (a1_1 : ByteArray) : Option (Bool) := if a0_0.toList = a1_0.toList then (if a0_1.toList = a1_1.toList then (some true) else (some false)) else (some false)
def laws_eqSumS.l0 : Nat → List (S130) → List (S130) → Int → Option (Bool)
 | 0, _, _, _ => none
 | k + 1, x0, x1, x5 => if x5 < (x0.length : Int) then (if 0 ≤ x5 then (if x5 < (x1.length : Int) then ((laws_eqSum.f ((rd_T130 x0 x5).f0) ((rd_T130 x0 x5).f1) ((rd_T130 x1 x5).f0) ((rd_T130 x1 x5).f1)).bind fun t452 => (if t452 = true then (laws_eqSumS.l0 k x0 x1 (wrap64 (x5 + 1))) else (some false))) else (none)) else (none)) else (some true)
def laws_eqSumS.f (k : Nat) (l0 : List (S130)) (l1 : List (S130)) : Option (Bool) := if (l0.length : Int) = (l1.length : Int) then (laws_eqSumS.l0 k l0 l1 0) else (some false)
def laws_eqPack.f (k : Nat) (a0_0 : ByteArray) (a0_1 : ByteArray) (a0_2 : ByteArray) (l0_3 : List (S130)) (a0_4 : Bool) (l0_5 : List ByteArray) (a1_0 : ByteArray) (a1_1 : ByteArray) (a1_2 : ByteArray) (l1_3 : List (S130)) (a1_4 : Bool) (l1_5 : List ByteArray) : Option (Bool) := if a0_0.toList = a1_0.toList then (if a0_1.toList = a1_1.toList then (if a0_2.toList = a1_2.toList then ((laws_eqSumS.f k l0_3 l1_3).bind fun t455 => (if t455 = true then (if (a0_4 != a1_4) = true then (some false) else ((laws_eqStringS.f k l0_5 l1_5).bind fun t456 => (if t456 = true then (some true) else (some false)))) else (some false))) else (some false)) else (some false)) else (some false)
def laws_eqPackS.l0 : Nat → List (S47) → List (S47) → Int → Option (Bool)
 | 0, _, _, _ => none
 | k + 1, x0, x1, x5 => if x5 < (x0.length : Int) then (if 0 ≤ x5 then (if x5 < (x1.length : Int) then ((laws_eqPack.f k ((rd_T47 x0 x5).f0) ((rd_T47 x0 x5).f1) ((rd_T47 x0 x5).f2) ((rd_T47 x0 x5).f3) ((rd_T47 x0 x5).f4) ((rd_T47 x0 x5).f5) ((rd_T47 x1 x5).f0) ((rd_T47 x1 x5).f1) ((rd_T47 x1 x5).f2) ((rd_T47 x1 x5).f3) ((rd_T47 x1 x5).f4) ((rd_T47 x1 x5).f5)).bind fun t459 => (if t459 = true then (laws_eqPackS.l0 k x0 x1 (wrap64 (x5 + 1))) else (some false))) else (none)) else (none)) else (some true)
def laws_eqPackS.f (k : Nat) (l0 : List (S47)) (l1 : List (S47)) : Option (Bool) := if (l0.length : Int) = (l1.length : Int) then (laws_eqPackS.l0 k l0 l1 0) else (some false)
def laws_eqGraph.f (k : Nat) (l0_0 : List ByteArray) (l0_1 : List (S47)) (l1_0 : List ByteArray) (l1_1 : List (S47)) : Option (Bool) := (laws_eqStringS.f k l0_0 l1_0).bind fun t462 => (if t462 = true then ((laws_eqPackS.f k l0_1 l1_1).bind fun t463 => (if t463 = true then (some true) else (some false))) else (some false))
def laws_markText.l0 : Nat → Int → ByteArray → Option (ByteArray)
 | 0, _, _ => none
 | k + 1, x0, x3 => if x0 > 0 then ((some (([(wrap64 (48 + (Int.tmod x0 10))) % 256] : List Int) : List Int)).bind fun y464 => (if (strOfNums y464).size + x3.size ≤ 9223372036854775807 then (laws_markText.l0 k (wrap64 (Int.tdiv x0 10)) ((strOfNums y464) ++ x3)) else (none))) else (if 1 + x3.size ≤ 9223372036854775807 then (some ((⟨#[109]⟩ : ByteArray) ++ x3)) else (none))
def laws_markText.f (k : Nat) (a0 : Int) : Option (ByteArray) := if a0 ≤ 0 then (some (⟨#[109, 48]⟩ : ByteArray)) else (laws_markText.l0 k a0 (⟨#[]⟩ : ByteArray))
def laws_markStringS.l0 : Nat → List ByteArray → Int → Int → Option (Int × List ByteArray)
 | 0, _, _, _ => none
 | k + 1, x0, x1, x5 => if x5 < (x0.length : Int) then ((laws_markText.f k x1).bind fun t467 => (if 0 ≤ x5 then (laws_markStringS.l0 k (x0.set (x5 : Int).toNat t467) (wrap64 (x1 + 1)) (wrap64 (x5 + 1))) else (none))) else (some (x1, x0))
def laws_markStringS.f (k : Nat) (l0 : List ByteArray) (a1 : Int) : Option (Int × List ByteArray) := laws_markStringS.l0 k l0 a1 0
def laws_markGraph.cnt (l0_0 : List ByteArray) (l0_1 : List (S47)) : Nat := l0_0.length + (l0_1.map fun p => 4 + 2 * p.f3.length + p.f5.length).sum
def laws_markGraph.f (l0_0 : List ByteArray) (l0_1 : List (S47)) (a1 : Int) : Option (Int) := if 0 ≤ a1 ∧ a1 + laws_markGraph.cnt l0_0 l0_1 ≤ 35184372088832 then some (a1 + laws_markGraph.cnt l0_0 l0_1) else none
def laws_heldStringS.l0 : Nat → List ByteArray → Int → Int → Option (Int)
 | 0, _, _, _ => none
 | k + 1, x0, x1, x5 => if x5 < (x0.length : Int) then (if 0 ≤ x5 then ((laws_markText.f k x1).bind fun t474 => (if (rdOf ByteArray.empty x0 x5).toList = t474.toList then (laws_heldStringS.l0 k x0 (wrap64 (x1 + 1)) (wrap64 (x5 + 1))) else (some (-1)))) else (none)) else (some x1)
def laws_heldStringS.f (k : Nat) (l0 : List ByteArray) (a1 : Int) : Option (Int) := laws_heldStringS.l0 k l0 a1 0
mutual
def laws_FnExactOrder.j0 : Nat → List ByteArray → Bool → List ByteArray → Bool → Bool → List ByteArray → List (S139) → List ByteArray → List (S47) → Option (Bool)
 | 0, _, _, _, _, _, _, _, _, _ => none
 | k + 1, x4, x5, x7, x8, x40, x490000, x490001, x508000, x508001 => if x40 = true then (some false) else ((laws_toGraph.f k x490000 x490001).bind fun bt513 => ((laws_eqGraph.f k x508000 x508001 bt513.1 bt513.2).bind fun t519 => (if t519 = true then ((laws_markGraph.f x508000 x508001 1).bind fun t520 => (if t520 < 0 then (laws_FnExactOrder.j1 k x4 x5 x7 true x490000 x490001) else ((laws_eqStringS.f k x7 x4).bind fun t521 => (if t521 = true then (laws_FnExactOrder.j1 k x4 x5 x7 (x8 != x5) x490000 x490001) else (laws_FnExactOrder.j1 k x4 x5 x7 true x490000 x490001))))) else (some false))))
def laws_FnExactOrder.j1 : Nat → List ByteArray → Bool → List ByteArray → Bool → List ByteArray → List (S139) → Option (Bool)
 | 0, _, _, _, _, _, _ => none
 | k + 1, x4, x5, x7, x61, x490000, x490001 => if x61 = true then (some false) else ((laws_markStringS.f k x7 1).bind fun bt522 => ((laws_heldStringS.f k bt522.2 1).bind fun t524 => (if t524 < 0 then (some false) else (if t524 = bt522.1 then ((laws_toGraph.f k x490000 x490001).bind fun bt525 => ((impl_Order.f k bt525.1 bt525.2).bind fun bt531 => ((laws_eqStringS.f k bt531.1 x4).bind fun t535 => (if t535 = true then (laws_FnExactOrder.j2 k bt522.2 bt522.1 (bt531.2 != x5)) else (laws_FnExactOrder.j2 k bt522.2 bt522.1 true))))) else (some false)))))
def laws_FnExactOrder.j2 : Nat → List ByteArray → Int → Bool → Option (Bool)
 | 0, _, _, _ => none
 | k + 1, x7, x10, x87 => if x87 = true then (some false) else ((laws_heldStringS.f k x7 1).bind fun t536 => (if t536 < 0 then (some false) else (if t536 = x10 then (some true) else (some false))))
end
def laws_FnExactOrder.f (k : Nat) (l0_0 : List ByteArray) (l0_1 : List (S139)) : Option (Bool) := (laws_szGraph.f k l0_0 l0_1 1048576).bind fun t490 => (if t490 < 0 then (some true) else ((laws_toGraph.f k l0_0 l0_1).bind fun bt491 => ((spec_Order.f k bt491.1 bt491.2).bind fun bt497 => ((laws_toGraph.f k l0_0 l0_1).bind fun bt501 => ((impl_Order.f k bt501.1 bt501.2).bind fun bt508 => ((laws_eqStringS.f k bt508.1 bt497.1).bind fun t512 => (if t512 = true then (laws_FnExactOrder.j0 k bt497.1 bt497.2 bt508.1 bt508.2 (bt508.2 != bt497.2) l0_0 l0_1 bt501.1 bt501.2) else (laws_FnExactOrder.j0 k bt497.1 bt497.2 bt508.1 bt508.2 true l0_0 l0_1 bt501.1 bt501.2))))))))
def laws_FnExactOrder.Pure : Prop := ∀ (l0_0 : List ByteArray) (l0_1 : List (S139)), (l0_0.length ≤ maxLen ∧ ∀ x_ ∈ l0_0, x_.size ≤ maxLen) → (l0_1.length ≤ maxLen ∧ ∀ x_ ∈ l0_1, (x_.f0.size ≤ maxLen ∧ (x_.f1.size ≤ maxLen ∧ (x_.f2.size ≤ maxLen ∧ ((x_.f3.length ≤ maxLen ∧ ∀ xx_ ∈ x_.f3, (xx_.f0.size ≤ maxLen ∧ xx_.f1.size ≤ maxLen)) ∧ (True ∧ (x_.f5.length ≤ maxLen ∧ ∀ xx_ ∈ x_.f5, xx_.size ≤ maxLen))))))) → ∃ k, laws_FnExactOrder.f k l0_0 l0_1 = some true
def laws_markSumS.l0 : Nat → List (S130) → Int → Int → Option (Int × (List (S130)))
 | 0, _, _, _ => none
 | k + 1, x0, x1, x5 => if x5 < (x0.length : Int) then ((laws_markText.f k x1).bind fun t469 => (if 0 ≤ x5 then ((some (x0.set (x5 : Int).toNat (⟨t469, (rd_T130 x0 x5).f1⟩ : S130) : List (S130))).bind fun y470 => ((laws_markText.f k (wrap64 (x1 + 1))).bind fun t471 => (laws_markSumS.l0 k (y470.set (x5 : Int).toNat (⟨(rd_T130 y470 x5).f0, t471⟩ : S130)) (wrap64 ((wrap64 (x1 + 1)) + 1)) (wrap64 (x5 + 1))))) else (none))) else (some (x1, x0))
def laws_markSumS.f (k : Nat) (l0 : List (S130)) (a1 : Int) : Option (Int × (List (S130))) := laws_markSumS.l0 k l0 a1 0
set_option maxHeartbeats 8000000 in
set_option maxRecDepth 100000 in
theorem laws_markText.calls (k : Nat) (a0 : Int) (r : ByteArray) (w : World) (h : laws_markText.f k a0 = some r) :
  Calls Tryz.prog 83 #[.int .i64 a0] w fun e w' => e = .returned (.string r) ∧ Below w.heap.size w w' := by
 have HB := am (Below.refl w.heap.size w)
 have H : (if a0 ≤ 0 then (some (⟨#[109, 48]⟩ : ByteArray)) else (laws_markText.l0 k a0 (⟨#[]⟩ : ByteArray))) = some r := h
 clear h
 by_cases c2 : a0 ≤ 0
 ·rw [if_pos c2] at H
  have c2b0 : decide (a0 ≤ 0) = true := decide_eq_true c2
  clear c2
  obtain rfl := Option.some.inj H
  go_enter Tryz.func83, Tryz.ntmps83
  go_wp2
  go_ret
  exact ⟨zb12, zb0⟩
 ·rw [if_neg c2] at H
  have c2b0 : decide (a0 ≤ 0) = false := decide_eq_false c2
  clear c2
  have H' := am H
  clear H
  go_enter Tryz.func83, Tryz.ntmps83
  go_wp2
  go_loopg [0, 3] k (fun kq v0 v3 w' => ∃ (x0_1 : Int) (x3_1 : ByteArray), v0 = .int .i64 x0_1 ∧ v3 = .string x3_1 ∧ Aside0 (laws_markText.l0 kq x0_1 x3_1 = some r) ∧ Aside0 (kq ≤ k) ∧ Aside0 (Below w.heap.size w w'))
  case atStart => exact ⟨(a0), ((⟨#[]⟩ : ByteArray)), zb3, zb3, H', ⟨Nat.le_refl _⟩, ⟨zb0⟩⟩
  case round =>
   clear H'
   try clear c2
   try clear c2b0
   try clear p2
   obtain ⟨x0_1, x3_1, rfl, rfl, HA, HK1, HB⟩ := hrel
   cases gk with
   | zero => exact absurd HA.out (by simp [laws_markText.l0])
   | succ k1 =>
    have H := HA.out
    clear HA
    simp only [laws_markText.l0] at H
    by_cases c3 : x0_1 > 0
    ·rw [if_pos c3] at H
     have c3b0 : decide (0 < x0_1) = true := decide_eq_true c3
     clear c3
     obtain ⟨y464, hy464⟩ : ∃ y_ : List Int, y_ = (([(wrap64 (48 + (Int.tmod x0_1 10))) % 256] : List Int)) := ⟨_, rfl⟩
     replace H : (if (strOfNums y464).size + x3_1.size ≤ 9223372036854775807 then (laws_markText.l0 k1 (wrap64 (Int.tdiv x0_1 10)) ((strOfNums y464) ++ x3_1)) else (none)) = some r := by first | (rw [hy464]; with_reducible exact H) | (have H2_ := (Option.bind_some _ _).symm.trans H; rw [hy464]; with_reducible exact H2_) | (have H2_ := (Option.bind_some _ _).symm.trans H; with_reducible exact H2_) | with_reducible exact H | (rw [hy464]; exact H) | exact H
     have Ny464 := am hy464
     clear hy464
     by_cases c4 : (strOfNums y464).size + x3_1.size ≤ 9223372036854775807
     ·rw [if_pos c4] at H
      have c4b0 := eq_true c4
      have c4b1 : decide ((strOfNums y464).size + x3_1.size ≤ 9223372036854775807) = true := decide_eq_true c4
      try have c4b2 : (9223372036854775807 < (strOfNums y464).size + x3_1.size) = False := eq_false (Nat.not_lt.2 c4)
      obtain ⟨js5, hjs5⟩ : ∃ j_ : ByteArray, ((strOfNums y464) ++ x3_1) = j_ := ⟨_, rfl⟩
      replace H : (laws_markText.l0 k1 (wrap64 (Int.tdiv x0_1 10)) js5) = some r := by first | (rw [hjs5] at H; exact H) | (simp only [hjs5] at H ⊢; exact H)
      have H' := am H
      clear H
      go_wp2_with (first | ((with_reducible refine gate_dst (N := 12) rfl ?_); refine Kd.R_lit (Kd.int .u8) _ 5 ?hg (N := 12) ?hd (xs := ([(wrap64 (48 + (Int.tmod x0_1 10))) % 256] : List Int)) (inner := [.int .u8 ((wrap64 (48 + (Int.tmod x0_1 10))) % 256)]) (ok := fun _ => True) (okp := fun _ => True) ?hr ?hp (fun _ hk => hk) trivial (Below.refl _ _) (Nat.le_refl _) zb44 ?_; (case hd => rfl); (case hg => rfl); (case hr => exact zb13); (case hp => repeat (first | exact Reps.none _ _ | refine Reps.one (show Kd.M (Kd.int .u8) _ _ _ _ [.int .u8 _] from rfl) ?_)); intro v465 w6 ho7 hb hg_ hnew_; clear hg_ hnew_; (first | rw [← Ny464.out] at ho7 | (simp only [Int.reduceToNat] at ho7; rw [← Ny464.out] at ho7)); have HO466 := am (Kd.R_lower ho7 (below_size zb0)); replace HB := am (below_step zb0 hb); clear hb ho7; have hcv8 := own_string (P := Tryz.prog) Tryz.underlying22 Tryz.underlying5 Tryz.underlying9 (Kd.own_of_R HO466.out); have hcvd9 := fun n_ : Nat => own_string (P := Tryz.prog) Tryz.underlying22 Tryz.underlying5 Tryz.underlying9 (Kd.own_of_R (Kd.R_drewN HO466.out n_))))
      go_roundg k1
      case measure => have := HK1.out; omega
      case rel => exact ⟨(wrap64 (Int.tdiv x0_1 10)), (js5), zb3, (by first | rfl | (simp; done) | (simp only [← hjs5] <;> (first | rfl | simp)) | (simp [*]; done)), H', ⟨by have := HK1.out; omega⟩, ⟨zb0⟩⟩
     ·rw [if_neg c4] at H
      exact absurd H zb44
    ·rw [if_neg c3] at H
     have c3b0 : decide (0 < x0_1) = false := decide_eq_false c3
     clear c3
     by_cases c10 : 1 + x3_1.size ≤ 9223372036854775807
     ·rw [if_pos c10] at H
      have c10b0 := eq_true c10
      have c10b1 : decide (1 + x3_1.size ≤ 9223372036854775807) = true := decide_eq_true c10
      try have c10b2 : (9223372036854775807 < 1 + x3_1.size) = False := eq_false (Nat.not_lt.2 c10)
      obtain ⟨js11, hjs11⟩ : ∃ j_ : ByteArray, ((⟨#[109]⟩ : ByteArray) ++ x3_1) = j_ := ⟨_, rfl⟩
      replace H : (some js11) = some r := by first | (rw [hjs11] at H; exact H) | (simp only [hjs11] at H ⊢; exact H)
      obtain rfl := Option.some.inj H
      go_wp2
      go_ret
      exact ⟨(by first | rfl | (simp [errW_none, errW_some] <;> rfl) | (simp only [← hjs11]; first | rfl | (simp [errW_none, errW_some] <;> rfl)) | (simp [*, errW_none, errW_some] <;> rfl)), zb0⟩
     ·rw [if_neg c10] at H
      exact absurd H zb44
set_option maxHeartbeats 8000000 in
set_option maxRecDepth 100000 in
theorem laws_markSumS.calls (k : Nat) (P0_ : Nat → Prop) (u9000_ : Value) (l0 : List (S130)) (a1 : Int) (r1 : Int) (r2 : List (S130)) (w0 w : World) (hB : Below w0.heap.size w0 w) (ho0 : Kd.R k130 130 w w0.heap.size P0_ u9000_ l0) (h : laws_markSumS.f k l0 a1 = some (r1, r2)) :
  Calls Tryz.prog 126 #[u9000_, .int .i64 a1] w fun e w' => e = .returned (.int .i64 r1) ∧ Kd.R k130 130 w' w0.heap.size (fun k_ => (P0_ k_ ∨ w.heap.size ≤ k_)) u9000_ r2 ∧ Below w0.heap.size w0 w' ∧ Kept w w' (fun k_ => P0_ k_) := by
 have HO0 := am (show Kd.R k130 130 w w0.heap.size (fun k_ => (P0_ k_ ∨ w.heap.size ≤ k_)) u9000_ l0 from Kd.R_mono ho0 (fun k_ hk => (.inl hk)))
 have HK := am (Kept.refl w (fun k_ => P0_ k_))
 have HW0 := am hB.size
 have HB := am hB
 clear hB
 have H : (laws_markSumS.l0 k l0 a1 0) = some (r1, r2) := h
 clear h
 have H' := am H
 clear H
 go_enter Tryz.func126, Tryz.ntmps126
 go_wp2
 go_loopg [1, 5] k (fun kq v1 v5 w' => ∃ (x0_1 : List (S130)) (x1_1 : Int) (x5_1 : Int), v1 = .int .i64 x1_1 ∧ v5 = .int .i64 x5_1 ∧ Aside0 (laws_markSumS.l0 kq x0_1 x1_1 x5_1 = some (r1, r2)) ∧ Aside0 (kq ≤ k) ∧ Aside0 (Kd.R k130 130 w' w0.heap.size (fun k_ => (P0_ k_ ∨ w.heap.size ≤ k_)) u9000_ x0_1) ∧ Aside0 (Kept w w' (fun k_ => P0_ k_)) ∧ Aside0 (Below w0.heap.size w0 w'))
 case atStart => exact ⟨(l0), (a1), (0), zb3, zb3, H', ⟨Nat.le_refl _⟩, ⟨(zR HO0.out)⟩, ⟨zb10⟩, ⟨zb0⟩⟩
 case round =>
  clear H'
  try clear c1
  try clear p2
  obtain ⟨x0_1, x1_1, x5_1, rfl, rfl, HA, HK1, HO_0, HK, HB⟩ := hrel
  cases gk with
  | zero => exact absurd HA.out (by simp [laws_markSumS.l0])
  | succ k1 =>
   have H := HA.out
   clear HA
   simp only [laws_markSumS.l0] at H
   by_cases c3 : x5_1 < (x0_1.length : Int)
   ·rw [if_pos c3] at H
    have c3b0 : decide (x5_1 < (x0_1.length : Int)) = true := decide_eq_true c3
    clear c3
    replace H := Option.bind_eq_some_iff.mp H
    obtain ⟨t469, A40, H⟩ := H
    try dsimp only at H
    have A4 := am A40
    clear A40
    by_cases c5 : 0 ≤ x5_1
    ·rw [if_pos c5] at H
     have c5b0 : decide (0 ≤ x5_1) = true := decide_eq_true c5
     clear c5
     obtain ⟨y470, hy470⟩ : ∃ y_ : List (S130), y_ = (x0_1.set (x5_1 : Int).toNat (⟨t469, (rd_T130 x0_1 x5_1).f1⟩ : S130)) := ⟨_, rfl⟩
     replace H : ((laws_markText.f k1 (wrap64 (x1_1 + 1))).bind fun t471 => (laws_markSumS.l0 k1 (y470.set (x5_1 : Int).toNat (⟨(rd_T130 y470 x5_1).f0, t471⟩ : S130)) (wrap64 ((wrap64 (x1_1 + 1)) + 1)) (wrap64 (x5_1 + 1)))) = some (r1, r2) := by first | (rw [hy470]; with_reducible exact H) | (have H2_ := (Option.bind_some _ _).symm.trans H; rw [hy470]; with_reducible exact H2_) | (have H2_ := (Option.bind_some _ _).symm.trans H; with_reducible exact H2_) | with_reducible exact H | (rw [hy470]; exact H) | exact H
     have Ny470 := am hy470
     clear hy470
     replace H := Option.bind_eq_some_iff.mp H
     obtain ⟨t471, A70, H⟩ := H
     try dsimp only at H
     have A7 := am A70
     clear A70
     obtain ⟨y472, hy472⟩ : ∃ y_ : List (S130), y_ = (y470.set (x5_1 : Int).toNat (⟨(rd_T130 y470 x5_1).f0, t471⟩ : S130)) := ⟨_, rfl⟩
     replace H : (laws_markSumS.l0 k1 y472 (wrap64 ((wrap64 (x1_1 + 1)) + 1)) (wrap64 (x5_1 + 1))) = some (r1, r2) := by first | (rw [hy472]; with_reducible exact H) | (have H2_ := (Option.bind_some _ _).symm.trans H; rw [hy472]; with_reducible exact H2_) | (have H2_ := (Option.bind_some _ _).symm.trans H; with_reducible exact H2_) | with_reducible exact H | (rw [hy472]; exact H) | exact H
     have Ny472 := am hy472
     clear hy472
     have H' := am H
     clear H
     obtain ⟨Ao9, co9, eo9⟩ := Kd.R_slice HO_0.out
     subst eo9
     go_wp2_with (first | ((with_reducible refine gate_callee (f := 83) rfl ?_); refine goesL_ (some 15) rfl rfl Tryz.func83 zb17 rfl #[.int .i64 x1_1] rfl zb4 ?_; (with_reducible refine (laws_markText.calls k1 x1_1 t469 _ A4.out).mono ?_); rintro e w10 ⟨rfl, hb⟩; refine ⟨_, rfl, ?_⟩; replace HO_0 := am (Kd.R_below (zR HO_0.out) hb); replace HK := am (Kept.below (S := (fun k_ => P0_ k_)) zb10 hb); replace HB := am (below_step zb0 hb); (try clear hb); have p6 : 0 ≤ (x5_1 : Int) := of_decide_eq_true zb6; have q6 : (x5_1 : Int) < ((x0_1.length : Int) : Int) := of_decide_eq_true zb6; obtain ⟨go6, co6, eo6, gb6, gl6, cl6, HG6⟩ := Kd.R_form HO_0.out (by omega); (first | cases eo6 | (injection eo6 with ea_ en_ ec_; (first | subst ea_ | (injection ea_ with ea_; subst ea_)); subst ec_; clear en_)); have GB6 := am gb6; have GG6 := am HG6; clear gb6 gl6 HG6; have HMgo6 := am (show (P0_ go6 ∨ w.heap.size ≤ go6) from (HO_0.out.1 _ rfl)); obtain ⟨ce6, hcl6, hM6, hcc6, hfr6⟩ := Kd.R_elem HO_0.out z130 (x5_1 : Int) p6 q6; obtain rfl := k130_openM hM6; have hx6_0 : w10.cell? ⟨go6, (x5_1 : Int).toNat * 2, none⟩ = some (.string ((rd_T130 x0_1 x5_1).f0)) := hcc6 0 _ rfl; have hx6_1 : w10.cell? ⟨go6, (x5_1 : Int).toNat * 2 + 1, none⟩ = some (.string ((rd_T130 x0_1 x5_1).f1)) := hcc6 1 _ rfl; have hf6_0 : w10.frozen? ⟨go6, (x5_1 : Int).toNat * 2, none⟩ = false := hfr6 0; have hf6_1 : w10.frozen? ⟨go6, (x5_1 : Int).toNat * 2 + 1, none⟩ = false := hfr6 1; clear hcl6 hcc6 hfr6 hM6; replace p6 := eq_true p6; replace q6 := eq_true q6; have HX11 := am (show Kd.R k130 130 w10 w0.heap.size (fun k_ => (P0_ k_ ∨ w.heap.size ≤ k_)) (.slice (some ⟨go6, 0, none⟩) x0_1.length co9) x0_1 from (zR HO_0.out)); obtain ⟨ce11, hcl11, hM11, hcc11, hfr11⟩ := Kd.R_elem HX11.out z130 (x5_1 : Int) (of_decide_eq_true zb6) (by have h_ : (x5_1 : Int) < ((x0_1.length : Int) : Int) := of_decide_eq_true zb6; first | exact h_ | (have e_ := (Kd.R_reads' HO_0.out).1; omega) | simpa using h_); obtain rfl := k130_openM hM11; have HP11 := Kd.R_seg HX11.out (x5_1 : Int) (of_decide_eq_true zb6) (by have h_ : (x5_1 : Int) < ((x0_1.length : Int) : Int) := of_decide_eq_true zb6; first | exact h_ | (have e_ := (Kd.R_reads' HO_0.out).1; omega) | simpa using h_) (seg := [.string t469]) (j := 0) hcl11 hcc11 (show 1 ≤ 2 from zb36) (x' := (⟨t469, (rd_T130 x0_1 x5_1).f1⟩ : S130)) (k130_mkM _ _ _ (⟨t469, (rd_T130 x0_1 x5_1).f1⟩ : S130) ) (fun _ hk => hk); have hx11_0 := hcc11 0 _ rfl; (try simp only [show (k130).sz = 2 from rfl, Nat.mul_one, Nat.add_zero] at hx11_0); have hf11_0 := hfr11 0; (try simp only [show (k130).sz = 2 from rfl, Nat.mul_one, Nat.add_zero] at hf11_0); clear hcl11 hcc11 hfr11 hM11) | ((with_reducible refine gate_store (t := 9) (p := 17) rfl ?_); refine store_event (t := 9) (p := 17) (v := ?vo_w12) (w1 := (w10.setCell ⟨go6, (x5_1 : Int).toNat * 2, none⟩ (.string t469))) ?hg ?ho ?hn ?hr ?_; (case ho => rfl); (case hg => rfl); (case hn => rfl); (case hr => exact zb13); intro w12 hw; have hg : w10.grownBy w12 (some go6) := (by rw [hw]; exact HP11.2); have hp_ : Kd.R k130 130 w12 w0.heap.size (fun k_ => (P0_ k_ ∨ w.heap.size ≤ k_)) (.slice (some ⟨go6, 0, none⟩) x0_1.length co9) y470 := (by rw [hw, Ny470.out]; exact HP11.1); clear HP11; replace HB := am ((by rw [hw]; exact below_set (HB.out) GB6.out : Below w0.heap.size w0 w12)); replace HK := am (Kept.of_grown (S := (fun k_ => P0_ k_)) hg zb10 (fun k_ e_ => (HO_0.out.1 k_ e_))); replace HO_0 := am hp_; clear hg hw hp_) | ((with_reducible refine gate_callee (f := 83) rfl ?_); refine goesL_ (some 23) rfl rfl Tryz.func83 zb17 rfl #[.int .i64 (wrap64 (x1_1 + 1))] rfl zb4 ?_; (with_reducible refine (laws_markText.calls k1 (wrap64 (x1_1 + 1)) t471 _ A7.out).mono ?_); rintro e w13 ⟨rfl, hb⟩; refine ⟨_, rfl, ?_⟩; replace HO_0 := am (Kd.R_below (zR HO_0.out) hb); replace HK := am (Kept.below (S := (fun k_ => P0_ k_)) zb10 hb); replace HB := am (below_step zb0 hb); (try clear hb); have p8 : 0 ≤ (x5_1 : Int) := of_decide_eq_true zb6; have q8 : (x5_1 : Int) < ((x0_1.length : Int) : Int) := of_decide_eq_true zb6; obtain ⟨ce8, hcl8, hM8, hcc8, hfr8⟩ := Kd.R_elem HO_0.out z130 (x5_1 : Int) p8 q8; obtain rfl := k130_openM hM8; have hx8_0 : w13.cell? ⟨go6, (x5_1 : Int).toNat * 2, none⟩ = some (.string ((rd_T130 y470 x5_1).f0)) := hcc8 0 _ rfl; have hx8_1 : w13.cell? ⟨go6, (x5_1 : Int).toNat * 2 + 1, none⟩ = some (.string ((rd_T130 y470 x5_1).f1)) := hcc8 1 _ rfl; have hf8_0 : w13.frozen? ⟨go6, (x5_1 : Int).toNat * 2, none⟩ = false := hfr8 0; have hf8_1 : w13.frozen? ⟨go6, (x5_1 : Int).toNat * 2 + 1, none⟩ = false := hfr8 1; clear hcl8 hcc8 hfr8 hM8; replace p8 := eq_true p8; replace q8 := eq_true q8; have HX14 := am (show Kd.R k130 130 w13 w0.heap.size (fun k_ => (P0_ k_ ∨ w.heap.size ≤ k_)) (.slice (some ⟨go6, 0, none⟩) x0_1.length co9) y470 from (zR HO_0.out)); obtain ⟨ce14, hcl14, hM14, hcc14, hfr14⟩ := Kd.R_elem HX14.out z130 (x5_1 : Int) (of_decide_eq_true zb6) (by have h_ : (x5_1 : Int) < ((x0_1.length : Int) : Int) := of_decide_eq_true zb6; first | exact h_ | (have e_ := (Kd.R_reads' HO_0.out).1; omega) | simpa using h_); obtain rfl := k130_openM hM14; have HP14 := Kd.R_seg HX14.out (x5_1 : Int) (of_decide_eq_true zb6) (by have h_ : (x5_1 : Int) < ((x0_1.length : Int) : Int) := of_decide_eq_true zb6; first | exact h_ | (have e_ := (Kd.R_reads' HO_0.out).1; omega) | simpa using h_) (seg := [.string t471]) (j := 1) hcl14 hcc14 (show 2 ≤ 2 from zb36) (x' := (⟨(rd_T130 y470 x5_1).f0, t471⟩ : S130)) (k130_mkM _ _ _ (⟨(rd_T130 y470 x5_1).f0, t471⟩ : S130) ) (fun _ hk => hk); have hx14_1 := hcc14 1 _ rfl; (try simp only [show (k130).sz = 2 from rfl, Nat.mul_one, Nat.add_zero] at hx14_1); have hf14_1 := hfr14 1; (try simp only [show (k130).sz = 2 from rfl, Nat.mul_one, Nat.add_zero] at hf14_1); clear hcl14 hcc14 hfr14 hM14) | ((with_reducible refine gate_store (t := 9) (p := 25) rfl ?_); refine store_event (t := 9) (p := 25) (v := ?vo_w15) (w1 := (w13.setCell ⟨go6, (x5_1 : Int).toNat * 2 + 1, none⟩ (.string t471))) ?hg ?ho ?hn ?hr ?_; (case ho => rfl); (case hg => rfl); (case hn => rfl); (case hr => exact zb13); intro w15 hw; have hg : w13.grownBy w15 (some go6) := (by rw [hw]; exact HP14.2); have hp_ : Kd.R k130 130 w15 w0.heap.size (fun k_ => (P0_ k_ ∨ w.heap.size ≤ k_)) (.slice (some ⟨go6, 0, none⟩) x0_1.length co9) y472 := (by rw [hw, Ny472.out]; exact HP14.1); clear HP14; replace HB := am ((by rw [hw]; exact below_set (HB.out) GB6.out : Below w0.heap.size w0 w15)); replace HK := am (Kept.of_grown (S := (fun k_ => P0_ k_)) hg zb10 (fun k_ e_ => (HO_0.out.1 k_ e_))); replace HO_0 := am hp_; clear hg hw hp_))
     go_roundg k1
     case measure => have := HK1.out; omega
     case rel => exact ⟨(y472), (wrap64 ((wrap64 (x1_1 + 1)) + 1)), (wrap64 (x5_1 + 1)), zb3, zb3, H', ⟨by have := HK1.out; omega⟩, ⟨(zR HO_0.out)⟩, ⟨zb10⟩, ⟨zb0⟩⟩
    ·rw [if_neg c5] at H
     exact absurd H zb44
   ·rw [if_neg c3] at H
    have c3b0 : decide (x5_1 < (x0_1.length : Int)) = false := decide_eq_false c3
    clear c3
    simp only [Option.some.injEq, Prod.mk.injEq] at H
    obtain ⟨rfl, rfl⟩ := H
    obtain ⟨Ao16, co16, eo16⟩ := Kd.R_slice HO_0.out
    subst eo16
    go_wp2
    go_ret
    exact ⟨zb12, (zR HO_0.out), zb0, zb10⟩
set_option maxHeartbeats 8000000 in
set_option maxRecDepth 100000 in
theorem laws_markStringS.calls (k : Nat) (P0_ : Nat → Prop) (u9000_ : Value) (l0 : List ByteArray) (a1 : Int) (r1 : Int) (r2 : List ByteArray) (w0 w : World) (hB : Below w0.heap.size w0 w) (ho0 : Kd.R Kd.string 9 w w0.heap.size P0_ u9000_ l0) (h : laws_markStringS.f k l0 a1 = some (r1, r2)) :
  Calls Tryz.prog 38 #[u9000_, .int .i64 a1] w fun e w' => e = .returned (.int .i64 r1) ∧ Kd.R Kd.string 9 w' w0.heap.size (fun k_ => (P0_ k_ ∨ w.heap.size ≤ k_)) u9000_ r2 ∧ Below w0.heap.size w0 w' ∧ Kept w w' (fun k_ => P0_ k_) := by
 have HO0 := am (show Kd.R Kd.string 9 w w0.heap.size (fun k_ => (P0_ k_ ∨ w.heap.size ≤ k_)) u9000_ l0 from Kd.R_mono ho0 (fun k_ hk => (.inl hk)))
 have HK := am (Kept.refl w (fun k_ => P0_ k_))
 have HW0 := am hB.size
 have HB := am hB
 clear hB
 have H : (laws_markStringS.l0 k l0 a1 0) = some (r1, r2) := h
 clear h
 have H' := am H
 clear H
 go_enter Tryz.func38, Tryz.ntmps38
 go_wp2
 go_loopg [1, 5] k (fun kq v1 v5 w' => ∃ (x0_1 : List ByteArray) (x1_1 : Int) (x5_1 : Int), v1 = .int .i64 x1_1 ∧ v5 = .int .i64 x5_1 ∧ Aside0 (laws_markStringS.l0 kq x0_1 x1_1 x5_1 = some (r1, r2)) ∧ Aside0 (kq ≤ k) ∧ Aside0 (Kd.R Kd.string 9 w' w0.heap.size (fun k_ => (P0_ k_ ∨ w.heap.size ≤ k_)) u9000_ x0_1) ∧ Aside0 (Kept w w' (fun k_ => P0_ k_)) ∧ Aside0 (Below w0.heap.size w0 w'))
 case atStart => exact ⟨(l0), (a1), (0), zb3, zb3, H', ⟨Nat.le_refl _⟩, ⟨(zR HO0.out)⟩, ⟨zb10⟩, ⟨zb0⟩⟩
 case round =>
  clear H'
  try clear p2
  obtain ⟨x0_1, x1_1, x5_1, rfl, rfl, HA, HK1, HO_0, HK, HB⟩ := hrel
  cases gk with
  | zero => exact absurd HA.out (by simp [laws_markStringS.l0])
  | succ k1 =>
   have H := HA.out
   clear HA
   simp only [laws_markStringS.l0] at H
   by_cases c3 : x5_1 < (x0_1.length : Int)
   ·rw [if_pos c3] at H
    have c3b0 : decide (x5_1 < (x0_1.length : Int)) = true := decide_eq_true c3
    clear c3
    replace H := Option.bind_eq_some_iff.mp H
    obtain ⟨t467, A40, H⟩ := H
    try dsimp only at H
    have A4 := am A40
    clear A40
    by_cases c5 : 0 ≤ x5_1
    ·rw [if_pos c5] at H
     have c5b0 : decide (0 ≤ x5_1) = true := decide_eq_true c5
     clear c5
     obtain ⟨y468, hy468⟩ : ∃ y_ : List ByteArray, y_ = (x0_1.set (x5_1 : Int).toNat t467) := ⟨_, rfl⟩
     replace H : (laws_markStringS.l0 k1 y468 (wrap64 (x1_1 + 1)) (wrap64 (x5_1 + 1))) = some (r1, r2) := by first | (rw [hy468]; with_reducible exact H) | (have H2_ := (Option.bind_some _ _).symm.trans H; rw [hy468]; with_reducible exact H2_) | (have H2_ := (Option.bind_some _ _).symm.trans H; with_reducible exact H2_) | with_reducible exact H | (rw [hy468]; exact H) | exact H
     have Ny468 := am hy468
     clear hy468
     have H' := am H
     clear H
     obtain ⟨Ao7, co7, eo7⟩ := Kd.R_slice HO_0.out
     subst eo7
     go_wp2_with (first | ((with_reducible refine gate_callee (f := 83) rfl ?_); refine goesL_ (some 15) rfl rfl Tryz.func83 zb17 rfl #[.int .i64 x1_1] rfl zb4 ?_; (with_reducible refine (laws_markText.calls k1 x1_1 t467 _ A4.out).mono ?_); rintro e w8 ⟨rfl, hb⟩; refine ⟨_, rfl, ?_⟩; replace HO_0 := am (Kd.R_below (zR HO_0.out) hb); replace HK := am (Kept.below (S := (fun k_ => P0_ k_)) zb10 hb); replace HB := am (below_step zb0 hb); (try clear hb); have p6 : 0 ≤ (x5_1 : Int) := of_decide_eq_true zb6; have q6 : (x5_1 : Int) < ((x0_1.length : Int) : Int) := of_decide_eq_true zb6; obtain ⟨go6, co6, eo6, gb6, gl6, cl6, HG6⟩ := Kd.R_form HO_0.out (by omega); (first | cases eo6 | (injection eo6 with ea_ en_ ec_; (first | subst ea_ | (injection ea_ with ea_; subst ea_)); subst ec_; clear en_)); have GB6 := am gb6; have GG6 := am HG6; clear gb6 gl6 HG6; have HMgo6 := am (show (P0_ go6 ∨ w.heap.size ≤ go6) from (HO_0.out.1 _ rfl)); obtain ⟨hx6_0, hf6_0⟩ := Kd.R_celln (⟨#[]⟩ : ByteArray) HO_0.out (x5_1 : Int) p6 q6; replace p6 := eq_true p6; replace q6 := eq_true q6; obtain ⟨hy9_, hz9_⟩ := Kd.R_celln (⟨#[]⟩ : ByteArray) HO_0.out (x5_1 : Int) (of_decide_eq_true zb6) (of_decide_eq_true zb6); have HP9 := Kd.R_putg HO_0.out (x5_1 : Int) t467) | ((with_reducible refine gate_store (t := 9) (p := 16) rfl ?_); refine store_event (t := 9) (p := 16) (v := ?vo_w10) (w1 := (w8.setCell ⟨go6, (x5_1 : Int).toNat, none⟩ (.string t467))) ?hg ?ho ?hn ?hr ?_; (case ho => rfl); (case hg => rfl); (case hn => rfl); (case hr => exact zb13); intro w10 hw; have hg : w8.grownBy w10 (some go6) := (by rw [hw]; exact HP9.2); have hp_ : Kd.R Kd.string 9 w10 w0.heap.size (fun k_ => (P0_ k_ ∨ w.heap.size ≤ k_)) (.slice (some ⟨go6, 0, none⟩) x0_1.length co7) y468 := (by rw [hw, Ny468.out]; exact HP9.1); clear HP9; replace HB := am ((by rw [hw]; exact below_set (HB.out) GB6.out : Below w0.heap.size w0 w10)); replace HK := am (Kept.of_grown (S := (fun k_ => P0_ k_)) hg zb10 (fun k_ e_ => (HO_0.out.1 k_ e_))); replace HO_0 := am hp_; clear hg hw hp_))
     go_roundg k1
     case measure => have := HK1.out; omega
     case rel => exact ⟨(y468), (wrap64 (x1_1 + 1)), (wrap64 (x5_1 + 1)), zb3, zb3, H', ⟨by have := HK1.out; omega⟩, ⟨(zR HO_0.out)⟩, ⟨zb10⟩, ⟨zb0⟩⟩
    ·rw [if_neg c5] at H
     exact absurd H zb44
   ·rw [if_neg c3] at H
    have c3b0 : decide (x5_1 < (x0_1.length : Int)) = false := decide_eq_false c3
    clear c3
    simp only [Option.some.injEq, Prod.mk.injEq] at H
    obtain ⟨rfl, rfl⟩ := H
    obtain ⟨Ao11, co11, eo11⟩ := Kd.R_slice HO_0.out
    subst eo11
    go_wp2
    go_ret
    exact ⟨zb12, (zR HO_0.out), zb0, zb10⟩
set_option maxHeartbeats 8000000 in
set_option maxRecDepth 100000 in
theorem laws_eqStringS.calls (k : Nat) (A0 : Option Addr) (c0 : Nat) (l0 : List ByteArray) (A1 : Option Addr) (c1 : Nat) (l1 : List ByteArray) (r : Bool) (w : World) (hr0 : Kd.C Kd.string w A0 l0.length l0) (hc0 : l0.length ≤ c0) (hr1 : Kd.C Kd.string w A1 l1.length l1) (hc1 : l1.length ≤ c1) (h : laws_eqStringS.f k l0 l1 = some r) :
  Calls Tryz.prog 35 #[.slice A0 l0.length c0, .slice A1 l1.length c1] w fun e w' => e = .returned (.bool r) ∧ Drawn0 w w' := by
 have HR0 := am hr0
 have HC0 := am hc0
 clear hr0 hc0
 have HR1 := am hr1
 have HC1 := am hc1
 clear hr1 hc1
 have H : (if (l0.length : Int) = (l1.length : Int) then (laws_eqStringS.l0 k l0 l1 0) else (some false)) = some r := h
 clear h
 by_cases c3 : (l0.length : Int) = (l1.length : Int)
 ·rw [if_pos c3] at H
  have c3b0 : ((l0.length : Int) == (l1.length : Int)) = true := beq_iff_eq.mpr c3
  have c3b1 : ((l0.length : Int) != (l1.length : Int)) = false := bne_eq_false_iff_eq.mpr c3
  have c3b2 : (l0.length == l1.length) = true := by first | simpa using c3 | (simp at c3 ⊢; omega)
  clear c3
  have H' := am H
  clear H
  go_enter Tryz.func35, Tryz.ntmps35
  go_wp2
  repeat (go_quiet (fail); try go_wp2)
  go_loopg [5] k (fun kq v5 w' => ∃ (x5_1 : Int), v5 = .int .i64 x5_1 ∧ Aside0 (laws_eqStringS.l0 kq l0 l1 x5_1 = some r) ∧ Aside0 (kq ≤ k) ∧ Drawn0 w w')
  case atStart => exact ⟨(0), zb3, H', ⟨Nat.le_refl _⟩, zb19⟩
  case round =>
   clear H'
   try clear c1
   try clear p2
   try clear c3
   try clear c3b0
   try clear c3b1
   try clear c3b2
   obtain ⟨x5_1, rfl, HA, HK1, ⟨m1, rfl⟩⟩ := hrel
   cases gk with
   | zero => exact absurd HA.out (by simp [laws_eqStringS.l0])
   | succ k1 =>
    have H := HA.out
    clear HA
    simp only [laws_eqStringS.l0] at H
    by_cases c4 : x5_1 < (l0.length : Int)
    ·rw [if_pos c4] at H
     have c4b0 : decide (x5_1 < (l0.length : Int)) = true := decide_eq_true c4
     clear c4
     by_cases c5 : 0 ≤ x5_1
     ·rw [if_pos c5] at H
      have c5b0 : decide (0 ≤ x5_1) = true := decide_eq_true c5
      clear c5
      by_cases c6 : x5_1 < (l1.length : Int)
      ·rw [if_pos c6] at H
       have c6b0 : decide (x5_1 < (l1.length : Int)) = true := decide_eq_true c6
       clear c6
       by_cases c7 : (rdOf ByteArray.empty l0 x5_1).toList = (rdOf ByteArray.empty l1 x5_1).toList
       ·rw [if_pos c7] at H
        have c7b0 : ((rdOf ByteArray.empty l0 x5_1).toList == (rdOf ByteArray.empty l1 x5_1).toList) = true := beq_iff_eq.mpr c7
        have c7b1 : ((rdOf ByteArray.empty l0 x5_1).toList != (rdOf ByteArray.empty l1 x5_1).toList) = false := bne_eq_false_iff_eq.mpr c7
        clear c7
        have H' := am H
        clear H
        have p446 : 0 ≤ (x5_1 : Int) := of_decide_eq_true zb6
        have q446 : x5_1 < (l0.length : Int) := of_decide_eq_true zb6
        obtain ⟨ad446, e446, hx446_0⟩ := Kd.at_string HR0.out x5_1 p446 q446
        cases e446
        replace p446 := eq_true p446
        replace q446 := eq_true q446
        have p447 : 0 ≤ (x5_1 : Int) := of_decide_eq_true zb6
        have q447 : x5_1 < (l1.length : Int) := of_decide_eq_true zb6
        obtain ⟨ad447, e447, hx447_0⟩ := Kd.at_string HR1.out x5_1 p447 q447
        cases e447
        replace p447 := eq_true p447
        replace q447 := eq_true q447
        go_wp2
        repeat (go_quiet (fail); try go_wp2)
        go_roundg k1
        case measure => have := HK1.out; omega
        case rel => exact ⟨(wrap64 (x5_1 + 1)), zb3, H', ⟨by have := HK1.out; omega⟩, zb19⟩
       ·rw [if_neg c7] at H
        have c7b0 : ((rdOf ByteArray.empty l0 x5_1).toList == (rdOf ByteArray.empty l1 x5_1).toList) = false := beq_eq_false_iff_ne.mpr c7
        have c7b1 : ((rdOf ByteArray.empty l0 x5_1).toList != (rdOf ByteArray.empty l1 x5_1).toList) = true := bne_iff_ne.mpr c7
        obtain rfl := Option.some.inj H
        have p446 : 0 ≤ (x5_1 : Int) := of_decide_eq_true zb6
        have q446 : x5_1 < (l0.length : Int) := of_decide_eq_true zb6
        obtain ⟨ad446, e446, hx446_0⟩ := Kd.at_string HR0.out x5_1 p446 q446
        cases e446
        replace p446 := eq_true p446
        replace q446 := eq_true q446
        have p447 : 0 ≤ (x5_1 : Int) := of_decide_eq_true zb6
        have q447 : x5_1 < (l1.length : Int) := of_decide_eq_true zb6
        obtain ⟨ad447, e447, hx447_0⟩ := Kd.at_string HR1.out x5_1 p447 q447
        cases e447
        replace p447 := eq_true p447
        replace q447 := eq_true q447
        go_wp2
        repeat (go_quiet (fail); try go_wp2)
        go_ret
        exact ⟨zb3, zb19⟩
      ·rw [if_neg c6] at H
       exact absurd H zb44
     ·rw [if_neg c5] at H
      exact absurd H zb44
    ·rw [if_neg c4] at H
     have c4b0 : decide (x5_1 < (l0.length : Int)) = false := decide_eq_false c4
     clear c4
     obtain rfl := Option.some.inj H
     go_wp2
     repeat (go_quiet (fail); try go_wp2)
     go_ret
     exact ⟨zb3, zb19⟩
 ·rw [if_neg c3] at H
  have c3b0 : ((l0.length : Int) == (l1.length : Int)) = false := beq_eq_false_iff_ne.mpr c3
  have c3b1 : ((l0.length : Int) != (l1.length : Int)) = true := bne_iff_ne.mpr c3
  have c3b2 : (l0.length == l1.length) = false := by first | simpa using c3 | (simp at c3 ⊢; omega)
  obtain rfl := Option.some.inj H
  go_enter Tryz.func35, Tryz.ntmps35
  go_wp2
  repeat (go_quiet (fail); try go_wp2)
  go_ret
  exact ⟨zb3, zb19⟩
set_option maxHeartbeats 8000000 in
set_option maxRecDepth 100000 in
theorem laws_heldStringS.calls (k : Nat) (A0 : Option Addr) (c0 : Nat) (l0 : List ByteArray) (a1 : Int) (r : Int) (w : World) (hr0 : Kd.C Kd.string w A0 l0.length l0) (hc0 : l0.length ≤ c0) (h : laws_heldStringS.f k l0 a1 = some r) :
  Calls Tryz.prog 39 #[.slice A0 l0.length c0, .int .i64 a1] w fun e w' => e = .returned (.int .i64 r) ∧ Below w.heap.size w w' := by
 have HR0 := am hr0
 have HC0 := am hc0
 clear hr0 hc0
 have HB := am (Below.refl w.heap.size w)
 have H : (laws_heldStringS.l0 k l0 a1 0) = some r := h
 clear h
 have H' := am H
 clear H
 go_enter Tryz.func39, Tryz.ntmps39
 go_wp2
 go_loopg [1, 5] k (fun kq v1 v5 w' => ∃ (x1_1 : Int) (x5_1 : Int), v1 = .int .i64 x1_1 ∧ v5 = .int .i64 x5_1 ∧ Aside0 (laws_heldStringS.l0 kq l0 x1_1 x5_1 = some r) ∧ Aside0 (kq ≤ k) ∧ Aside0 (Below w.heap.size w w'))
 case atStart => exact ⟨(a1), (0), zb3, zb3, H', ⟨Nat.le_refl _⟩, ⟨zb0⟩⟩
 case round =>
  clear H'
  try clear p2
  obtain ⟨x1_1, x5_1, rfl, rfl, HA, HK1, HB⟩ := hrel
  cases gk with
  | zero => exact absurd HA.out (by simp [laws_heldStringS.l0])
  | succ k1 =>
   have H := HA.out
   clear HA
   simp only [laws_heldStringS.l0] at H
   by_cases c3 : x5_1 < (l0.length : Int)
   ·rw [if_pos c3] at H
    have c3b0 : decide (x5_1 < (l0.length : Int)) = true := decide_eq_true c3
    clear c3
    by_cases c4 : 0 ≤ x5_1
    ·rw [if_pos c4] at H
     have c4b0 : decide (0 ≤ x5_1) = true := decide_eq_true c4
     clear c4
     replace H := Option.bind_eq_some_iff.mp H
     obtain ⟨t474, A50, H⟩ := H
     try dsimp only at H
     have A5 := am A50
     clear A50
     by_cases c6 : (rdOf ByteArray.empty l0 x5_1).toList = t474.toList
     ·rw [if_pos c6] at H
      have c6b0 : ((rdOf ByteArray.empty l0 x5_1).toList == t474.toList) = true := beq_iff_eq.mpr c6
      have c6b1 : ((rdOf ByteArray.empty l0 x5_1).toList != t474.toList) = false := bne_eq_false_iff_eq.mpr c6
      clear c6
      have H' := am H
      clear H
      try go_wp2
      replace HB := am (below_drew1 HB.out)
      have p473 : 0 ≤ (x5_1 : Int) := of_decide_eq_true zb6
      have q473 : x5_1 < (l0.length : Int) := of_decide_eq_true zb6
      obtain ⟨ad473, e473, hx473_0⟩ := Kd.at_string HR0.out x5_1 p473 q473
      have hw473_0 := hx473_0
      cases e473
      replace hx473_0 := (HB.out.cell (World.block_lt_of_cell? w _ hx473_0)).trans hx473_0
      replace p473 := eq_true p473
      replace q473 := eq_true q473
      refine start_ (n := 7) (S := fun w' => w'.cell? (ad473.add (x5_1).toNat) = some (.string (rdOf ByteArray.empty l0 x5_1))) (ds := []) #[false, false, false, false, false, false, false] zb17 rfl rfl (((HB.out.cell (World.block_lt_of_cell? w _ hw473_0)).trans hw473_0)) (fun hHeld => ?_)
      generalize wr.drew = w7 at HB hx473_0 hHeld ⊢
      refine pure_ (i := 0) (N := some 12) (v := ?_) (a' := ?_) #[true, false, false, false, false, false, false] rfl rfl zb17 (fun _ _ _ h => h) (Or.inl ⟨by rfl, ?_⟩) ?_ ?_
      rotate_left
      ·intro w'
       go_simp
       with_reducible rfl
      rotate_left
      ·simp only [Act.put, List.setIfInBounds_toArray, List.set_cons_zero, List.set_cons_succ, i64_w, i32_w]
       rfl
      refine pure_ (i := 1) (N := some 13) (v := ?_) (a' := ?_) #[true, true, false, false, false, false, false] rfl rfl zb17 (fun _ _ _ h => h) (Or.inl ⟨by rfl, ?_⟩) ?_ ?_
      rotate_left
      ·intro w'
       go_simp
       with_reducible rfl
      rotate_left
      ·simp only [Act.put, List.setIfInBounds_toArray, List.set_cons_zero, List.set_cons_succ, i64_w, i32_w]
       rfl
      refine pure_ (i := 2) (N := some 14) (v := ?_) (a' := ?_) #[true, true, true, false, false, false, false] rfl rfl zb17 (fun _ _ _ h => h) (Or.inl ⟨by rfl, ?_⟩) ?_ ?_
      rotate_left
      ·intro w'
       go_simp
       with_reducible rfl
      rotate_left
      ·simp only [Act.put, List.setIfInBounds_toArray, List.set_cons_zero, List.set_cons_succ, i64_w, i32_w]
       rfl
      refine pure_ (i := 4) (N := some 16) (v := ?_) (a' := ?_) #[true, true, true, false, true, false, false] rfl rfl zb17 (fun _ _ _ h => h) (Or.inl ⟨by rfl, ?_⟩) ?_ ?_
      rotate_left
      ·intro w'
       go_simp
       with_reducible rfl
      rotate_left
      ·simp only [Act.put, List.setIfInBounds_toArray, List.set_cons_zero, List.set_cons_succ, i64_w, i32_w]
       rfl
      refine take_ (i := 3) (N := some 15) (v := ?_) (a' := ?_) #[true, true, true, true, true, false, false] rfl rfl zb17 (fun _ _ _ h => h) (Or.inl ⟨by rfl, ?_⟩) hHeld ?_ ?_
      rotate_left
      ·intro w' s0
       go_simp
       with_reducible rfl
      rotate_left
      ·simp only [Act.put, List.setIfInBounds_toArray, List.set_cons_zero, List.set_cons_succ, i64_w, i32_w]
       rfl
      refine one_ (i := 5) (N := some 17) #[true, true, true, true, true, true, false] rfl rfl zb17 zb36 (fun K hK => ?_)
      refine goes_ Tryz.func83 zb17 rfl #[.int .i64 x1_1] (by rfl) rfl rfl zb4 ?_
      with_reducible refine (laws_markText.calls k1 x1_1 t474 _ A5.out).mono ?_
      rintro e w8 ⟨rfl, hb⟩
      refine ⟨_, rfl, ?_⟩
      replace HB := am (below_step zb0 hb)
      (try clear hb)
      refine hK.out _ _ (((HB.out.cell (World.block_lt_of_cell? w _ hw473_0)).trans hw473_0)) (fun hHeld => ?_)
      clear hK K
      refine norm_ (a' := ?_) ?_ ?_
      rotate_left
      ·show Act.put _ (some 17) _ = _
       simp only [Act.put, List.setIfInBounds_toArray, List.set_cons_zero, List.set_cons_succ, i64_w, i32_w]
       rfl
      refine pure_ (i := 6) (N := some 18) (v := ?_) (a' := ?_) #[true, true, true, true, true, true, true] rfl rfl zb17 (fun _ _ _ h => h) (Or.inl ⟨by rfl, ?_⟩) ?_ ?_
      rotate_left
      ·intro w'
       go_simp
       with_reducible rfl
      rotate_left
      ·simp only [Act.put, List.setIfInBounds_toArray, List.set_cons_zero, List.set_cons_succ, i64_w, i32_w]
       rfl
      refine done_ zb17 ?_
      try go_wp2
      go_roundg k1
      case measure => have := HK1.out; omega
      case rel => exact ⟨(wrap64 (x1_1 + 1)), (wrap64 (x5_1 + 1)), zb3, zb3, H', ⟨by have := HK1.out; omega⟩, ⟨zb0⟩⟩
     ·rw [if_neg c6] at H
      have c6b0 : ((rdOf ByteArray.empty l0 x5_1).toList == t474.toList) = false := beq_eq_false_iff_ne.mpr c6
      have c6b1 : ((rdOf ByteArray.empty l0 x5_1).toList != t474.toList) = true := bne_iff_ne.mpr c6
      obtain rfl := Option.some.inj H
      try go_wp2
      replace HB := am (below_drew1 HB.out)
      have p473 : 0 ≤ (x5_1 : Int) := of_decide_eq_true zb6
      have q473 : x5_1 < (l0.length : Int) := of_decide_eq_true zb6
      obtain ⟨ad473, e473, hx473_0⟩ := Kd.at_string HR0.out x5_1 p473 q473
      have hw473_0 := hx473_0
      cases e473
      replace hx473_0 := (HB.out.cell (World.block_lt_of_cell? w _ hx473_0)).trans hx473_0
      replace p473 := eq_true p473
      replace q473 := eq_true q473
      refine start_ (n := 7) (S := fun w' => w'.cell? (ad473.add (x5_1).toNat) = some (.string (rdOf ByteArray.empty l0 x5_1))) (ds := []) #[false, false, false, false, false, false, false] zb17 rfl rfl (((HB.out.cell (World.block_lt_of_cell? w _ hw473_0)).trans hw473_0)) (fun hHeld => ?_)
      generalize wr.drew = w9 at HB hx473_0 hHeld ⊢
      refine pure_ (i := 0) (N := some 12) (v := ?_) (a' := ?_) #[true, false, false, false, false, false, false] rfl rfl zb17 (fun _ _ _ h => h) (Or.inl ⟨by rfl, ?_⟩) ?_ ?_
      rotate_left
      ·intro w'
       go_simp
       with_reducible rfl
      rotate_left
      ·simp only [Act.put, List.setIfInBounds_toArray, List.set_cons_zero, List.set_cons_succ, i64_w, i32_w]
       rfl
      refine pure_ (i := 1) (N := some 13) (v := ?_) (a' := ?_) #[true, true, false, false, false, false, false] rfl rfl zb17 (fun _ _ _ h => h) (Or.inl ⟨by rfl, ?_⟩) ?_ ?_
      rotate_left
      ·intro w'
       go_simp
       with_reducible rfl
      rotate_left
      ·simp only [Act.put, List.setIfInBounds_toArray, List.set_cons_zero, List.set_cons_succ, i64_w, i32_w]
       rfl
      refine pure_ (i := 2) (N := some 14) (v := ?_) (a' := ?_) #[true, true, true, false, false, false, false] rfl rfl zb17 (fun _ _ _ h => h) (Or.inl ⟨by rfl, ?_⟩) ?_ ?_
      rotate_left
      ·intro w'
       go_simp
       with_reducible rfl
      rotate_left
      ·simp only [Act.put, List.setIfInBounds_toArray, List.set_cons_zero, List.set_cons_succ, i64_w, i32_w]
       rfl
      refine pure_ (i := 4) (N := some 16) (v := ?_) (a' := ?_) #[true, true, true, false, true, false, false] rfl rfl zb17 (fun _ _ _ h => h) (Or.inl ⟨by rfl, ?_⟩) ?_ ?_
      rotate_left
      ·intro w'
       go_simp
       with_reducible rfl
      rotate_left
      ·simp only [Act.put, List.setIfInBounds_toArray, List.set_cons_zero, List.set_cons_succ, i64_w, i32_w]
       rfl
      refine take_ (i := 3) (N := some 15) (v := ?_) (a' := ?_) #[true, true, true, true, true, false, false] rfl rfl zb17 (fun _ _ _ h => h) (Or.inl ⟨by rfl, ?_⟩) hHeld ?_ ?_
      rotate_left
      ·intro w' s0
       go_simp
       with_reducible rfl
      rotate_left
      ·simp only [Act.put, List.setIfInBounds_toArray, List.set_cons_zero, List.set_cons_succ, i64_w, i32_w]
       rfl
      refine one_ (i := 5) (N := some 17) #[true, true, true, true, true, true, false] rfl rfl zb17 zb36 (fun K hK => ?_)
      refine goes_ Tryz.func83 zb17 rfl #[.int .i64 x1_1] (by rfl) rfl rfl zb4 ?_
      with_reducible refine (laws_markText.calls k1 x1_1 t474 _ A5.out).mono ?_
      rintro e w10 ⟨rfl, hb⟩
      refine ⟨_, rfl, ?_⟩
      replace HB := am (below_step zb0 hb)
      (try clear hb)
      refine hK.out _ _ (((HB.out.cell (World.block_lt_of_cell? w _ hw473_0)).trans hw473_0)) (fun hHeld => ?_)
      clear hK K
      refine norm_ (a' := ?_) ?_ ?_
      rotate_left
      ·show Act.put _ (some 17) _ = _
       simp only [Act.put, List.setIfInBounds_toArray, List.set_cons_zero, List.set_cons_succ, i64_w, i32_w]
       rfl
      refine pure_ (i := 6) (N := some 18) (v := ?_) (a' := ?_) #[true, true, true, true, true, true, true] rfl rfl zb17 (fun _ _ _ h => h) (Or.inl ⟨by rfl, ?_⟩) ?_ ?_
      rotate_left
      ·intro w'
       go_simp
       with_reducible rfl
      rotate_left
      ·simp only [Act.put, List.setIfInBounds_toArray, List.set_cons_zero, List.set_cons_succ, i64_w, i32_w]
       rfl
      refine done_ zb17 ?_
      try go_wp2
      go_ret
      exact ⟨zb12, zb0⟩
    ·rw [if_neg c4] at H
     exact absurd H zb44
   ·rw [if_neg c3] at H
    have c3b0 : decide (x5_1 < (l0.length : Int)) = false := decide_eq_false c3
    clear c3
    obtain rfl := Option.some.inj H
    go_wp2
    go_ret
    exact ⟨zb12, zb0⟩
set_option maxHeartbeats 8000000 in
set_option maxRecDepth 100000 in
theorem laws_toStringS.calls (k : Nat) (A0 : Option Addr) (c0 : Nat) (l0 : List ByteArray) (r : List ByteArray) (w : World) (hr0 : Kd.C Kd.string w A0 l0.length l0) (hc0 : l0.length ≤ c0) (h : laws_toStringS.f k l0 = some r) :
  Calls Tryz.prog 79 #[.slice A0 l0.length c0] w fun e w' => ∃ v0_ : Value, e = .returned (v0_) ∧ Kd.R Kd.string 9 w' w.heap.size (fun _ => True) v0_ r ∧ Below w.heap.size w w' := by
 have HR0 := am hr0
 have HC0 := am hc0
 clear hr0 hc0
 have HB := am (Below.refl w.heap.size w)
 have H : (if 0 ≤ (l0.length : Int) then (if ((l0.length : Int) : Int).toNat ≤ 17592186044416 then (laws_toStringS.l0 k l0 (List.replicate ((l0.length : Int) : Int).toNat (⟨#[]⟩ : ByteArray)) 0) else (none)) else (none)) = some r := h
 clear h
 by_cases c2 : 0 ≤ (l0.length : Int)
 ·rw [if_pos c2] at H
  have c2b0 := eq_true c2
  have c2b1 : decide (0 ≤ (l0.length : Int)) = true := decide_eq_true c2
  clear c2
  by_cases c3 : ((l0.length : Int) : Int).toNat ≤ 17592186044416
  ·rw [if_pos c3] at H
   have c3b0 := eq_true c3
   have c3b1 : decide (((l0.length : Int) : Int).toNat ≤ 17592186044416) = true := decide_eq_true c3
   clear c3
   obtain ⟨y398, hy398⟩ : ∃ y_ : List ByteArray, y_ = (List.replicate ((l0.length : Int) : Int).toNat (⟨#[]⟩ : ByteArray)) := ⟨_, rfl⟩
   replace H : (laws_toStringS.l0 k l0 y398 0) = some r := by first | (rw [hy398]; with_reducible exact H) | (have H2_ := (Option.bind_some _ _).symm.trans H; rw [hy398]; with_reducible exact H2_) | (have H2_ := (Option.bind_some _ _).symm.trans H; with_reducible exact H2_) | with_reducible exact H | (rw [hy398]; exact H) | exact H
   have Ny398 := am hy398
   clear hy398
   have H' := am H
   clear H
   go_enter Tryz.func79, Tryz.ntmps79
   go_wp2_with (first | ((with_reducible refine gate_dst (N := 7) rfl ?_); refine Kd.R_make Kd.string _ 9 rfl (N := 7) rfl 36 _ _ rfl (l0.length : Int) rfl rfl Tryz.underlying36 (.string ⟨#[]⟩) 16 info9 rfl zb36 (by omega) (⟨#[]⟩ : ByteArray) (ok := fun _ => True) (okp := fun _ => True) rfl (fun _ hk => hk) trivial (of_decide_eq_true zb6) (Nat.le_trans (Nat.mul_le_mul_right _ (of_decide_eq_true zb6 : (l0.length : Int).toNat ≤ 17592186044416)) (by omega)) (Below.refl _ _) (Nat.le_refl _) ?_; intro v399 w4 ho5 hb hg_ hnew_; clear hg_ hnew_; (first | rw [← Ny398.out] at ho5 | (simp only [Int.reduceToNat] at ho5; rw [← Ny398.out] at ho5)); have HO400 := am (Kd.R_lower ho5 (below_size zb0)); replace HB := am (below_step zb0 hb); clear hb ho5))
   go_loopg [4] k (fun kq v4 w' => ∃ (x3_1 : List ByteArray) (x4_1 : Int), v4 = .int .i64 x4_1 ∧ Aside0 (laws_toStringS.l0 kq l0 x3_1 x4_1 = some r) ∧ Aside0 (kq ≤ k) ∧ Aside0 (Kd.R Kd.string 9 w' w.heap.size (fun _ => True) v399 x3_1) ∧ Aside0 (Below w.heap.size w w'))
   case atStart => exact ⟨(y398), (0), zb3, H', ⟨Nat.le_refl _⟩, ⟨(zR HO400.out)⟩, ⟨zb0⟩⟩
   case round =>
    clear H'
    try clear c2
    try clear c2b0
    try clear c2b1
    try clear p2
    try clear c3
    try clear c3b0
    try clear c3b1
    obtain ⟨x3_1, x4_1, rfl, HA, HK1, HO_3, HB⟩ := hrel
    cases gk with
    | zero => exact absurd HA.out (by simp [laws_toStringS.l0])
    | succ k1 =>
     have H := HA.out
     clear HA
     simp only [laws_toStringS.l0] at H
     by_cases c6 : x4_1 < (l0.length : Int)
     ·rw [if_pos c6] at H
      have c6b0 : decide (x4_1 < (l0.length : Int)) = true := decide_eq_true c6
      clear c6
      by_cases c7 : 0 ≤ x4_1
      ·rw [if_pos c7] at H
       have c7b0 : decide (0 ≤ x4_1) = true := decide_eq_true c7
       clear c7
       by_cases c8 : x4_1 < (x3_1.length : Int)
       ·rw [if_pos c8] at H
        have c8b0 : decide (x4_1 < (x3_1.length : Int)) = true := decide_eq_true c8
        clear c8
        obtain ⟨y402, hy402⟩ : ∃ y_ : List ByteArray, y_ = (x3_1.set (x4_1 : Int).toNat (rdOf ByteArray.empty l0 x4_1)) := ⟨_, rfl⟩
        replace H : (laws_toStringS.l0 k1 l0 y402 (wrap64 (x4_1 + 1))) = some r := by first | (rw [hy402]; with_reducible exact H) | (have H2_ := (Option.bind_some _ _).symm.trans H; rw [hy402]; with_reducible exact H2_) | (have H2_ := (Option.bind_some _ _).symm.trans H; with_reducible exact H2_) | with_reducible exact H | (rw [hy402]; exact H) | exact H
        have Ny402 := am hy402
        clear hy402
        have H' := am H
        clear H
        have p401 : 0 ≤ (x4_1 : Int) := of_decide_eq_true zb6
        have q401 : x4_1 < (l0.length : Int) := of_decide_eq_true zb6
        obtain ⟨ad401, e401, hx401_0⟩ := Kd.at_string HR0.out x4_1 p401 q401
        cases e401
        replace hx401_0 := (HB.out.cell (World.block_lt_of_cell? w _ hx401_0)).trans hx401_0
        replace p401 := eq_true p401
        replace q401 := eq_true q401
        have p9 : 0 ≤ (x4_1 : Int) := of_decide_eq_true zb6
        have q9 : (x4_1 : Int) < ((x3_1.length : Int) : Int) := of_decide_eq_true zb6
        obtain ⟨go9, co9, eo9, gb9, gl9, cl9, HG9⟩ := Kd.R_form HO_3.out (by omega)
        (first | cases eo9 | (injection eo9 with ea_ en_ ec_; (first | subst ea_ | (injection ea_ with ea_; subst ea_)); subst ec_; clear en_))
        have GB9 := am gb9
        have GG9 := am HG9
        clear gb9 gl9 HG9
        obtain ⟨hx9_0, hf9_0⟩ := Kd.R_celln (⟨#[]⟩ : ByteArray) HO_3.out (x4_1 : Int) p9 q9
        replace p9 := eq_true p9
        replace q9 := eq_true q9
        have HP10 := Kd.R_putg HO_3.out (x4_1 : Int) (rdOf ByteArray.empty l0 x4_1)
        go_wp2_with (first | ((with_reducible refine gate_store (t := 9) (p := 20) rfl ?_); refine store_event (t := 9) (p := 20) (v := ?vo_w11) (w1 := (wr.setCell ⟨go9, (x4_1 : Int).toNat, none⟩ (.string (rdOf ByteArray.empty l0 x4_1)))) ?hg ?ho ?hn ?hr ?_; (case ho => rfl); (case hg => rfl); (case hn => rfl); (case hr => exact zb13); intro w11 hw; have hg : wr.grownBy w11 (some go9) := (by rw [hw]; exact HP10.2); have hp_ : Kd.R Kd.string 9 w11 w.heap.size (fun _ => True) (.slice (some ⟨go9, 0, none⟩) x3_1.length co9) y402 := (by rw [hw, Ny402.out]; exact HP10.1); clear HP10; replace HO_3 := am hp_; replace HB := am ((by rw [hw]; exact below_set (HB.out) GB9.out : Below w.heap.size w w11)); clear hg hw hp_))
        go_roundg k1
        case measure => have := HK1.out; omega
        case rel => exact ⟨(y402), (wrap64 (x4_1 + 1)), zb3, H', ⟨by have := HK1.out; omega⟩, ⟨(zR HO_3.out)⟩, ⟨zb0⟩⟩
       ·rw [if_neg c8] at H
        exact absurd H zb44
      ·rw [if_neg c7] at H
       exact absurd H zb44
     ·rw [if_neg c6] at H
      have c6b0 : decide (x4_1 < (l0.length : Int)) = false := decide_eq_false c6
      clear c6
      obtain rfl := Option.some.inj H
      go_wp2
      go_ret
      exact ⟨_, zb12, (zR HO_3.out), zb0⟩
  ·rw [if_neg c3] at H
   exact absurd H zb44
 ·rw [if_neg c2] at H
  exact absurd H zb44
set_option maxHeartbeats 8000000 in
set_option maxRecDepth 100000 in
theorem laws_toSum.calls (a0_0 : ByteArray) (a0_1 : ByteArray) (r1 : ByteArray) (r2 : ByteArray) (w : World) (h : laws_toSum.f a0_0 a0_1 = some (r1, r2)) :
  Calls Tryz.prog 199 #[.agg #[.string a0_0, .string a0_1]] w fun e w' => e = .returned (.agg #[.string r1, .string r2]) ∧ Below w.heap.size w w' := by
 have hu185 := Tryz.underlying185
 have hu130 := Tryz.underlying130
 have HB := am (Below.refl w.heap.size w)
 have H : (some (a0_0, a0_1)) = some (r1, r2) := h
 clear h
 simp only [Option.some.injEq, Prod.mk.injEq] at H
 obtain ⟨rfl, rfl⟩ := H
 go_enter Tryz.func199, Tryz.ntmps199
 go_wp2_with (first | ((with_reducible refine gate_dst (N := 1) rfl ?_); refine box_event ?hg (N := 1) ?hd (cs := #[.string a0_0, .string a0_1]) (t := 185) ?hr ?_; (case hd => rfl); (case hg => rfl); (case hr => exact zb13); intro gb403 hg w2 hbox hb; have BK403 := am hbox; have GW403 := am ((by rw [hg]; exact (below_size zb0) : w.heap.size ≤ gb403)); have GE403 := am ((by rw [hg]; exact (below_size zb0) : w.heap.size ≤ gb403)); replace HB := am (below_step zb0 hb); clear hb hbox hg) | ((with_reducible refine gate_dst (N := 2) rfl ?_); refine box_event ?hg (N := 2) ?hd (cs := #[.string (⟨#[]⟩ : ByteArray), .string (⟨#[]⟩ : ByteArray)]) (t := 130) ?hr ?_; (case hd => rfl); (case hg => rfl); (case hr => exact zb13); intro gb404 hg w3 hbox hb; have BK404 := am hbox; have GW404 := am ((by rw [hg]; exact (below_size zb29) : w.heap.size ≤ gb404)); have GE404 := am ((by rw [hg]; exact (below_size zb29) : w.heap.size ≤ gb404)); replace HB := am (below_step zb29 hb); have NB403_404 := am ((by rw [hg]; exact Nat.ne_of_lt (blk_lt (g := gb403) (o := .cells #[.string a0_0, .string a0_1] 185 (0, 0)) (zB BK403.out)) : gb403 ≠ gb404)); have NB404_403 := am ((by rw [hg]; exact Nat.ne_of_gt (blk_lt (g := gb403) (o := .cells #[.string a0_0, .string a0_1] 185 (0, 0)) (zB BK403.out)) : gb404 ≠ gb403)); replace BK403 := am (blk_below (g := gb403) (o := .cells #[.string a0_0, .string a0_1] 185 (0, 0)) (zB BK403.out) hb); clear hb hbox hg) | ((with_reducible refine gate_dst (N := 3) rfl ?_); refine box_event ?hg (N := 3) ?hd (cs := #[.string (⟨#[]⟩ : ByteArray), .string (⟨#[]⟩ : ByteArray)]) (t := 130) ?hr ?_; (case hd => rfl); (case hg => rfl); (case hr => exact zb13); intro gb405 hg w4 hbox hb; have BK405 := am hbox; have GW405 := am ((by rw [hg]; exact (below_size zb22) : w.heap.size ≤ gb405)); have GE405 := am ((by rw [hg]; exact (below_size zb22) : w.heap.size ≤ gb405)); replace HB := am (below_step zb22 hb); have NB403_405 := am ((by rw [hg]; exact Nat.ne_of_lt (blk_lt (g := gb403) (o := .cells #[.string a0_0, .string a0_1] 185 (0, 0)) (zB BK403.out)) : gb403 ≠ gb405)); have NB405_403 := am ((by rw [hg]; exact Nat.ne_of_gt (blk_lt (g := gb403) (o := .cells #[.string a0_0, .string a0_1] 185 (0, 0)) (zB BK403.out)) : gb405 ≠ gb403)); replace BK403 := am (blk_below (g := gb403) (o := .cells #[.string a0_0, .string a0_1] 185 (0, 0)) (zB BK403.out) hb); have NB404_405 := am ((by rw [hg]; exact Nat.ne_of_lt (blk_lt (g := gb404) (o := .cells #[.string (⟨#[]⟩ : ByteArray), .string (⟨#[]⟩ : ByteArray)] 130 (0, 0)) (zB BK404.out)) : gb404 ≠ gb405)); have NB405_404 := am ((by rw [hg]; exact Nat.ne_of_gt (blk_lt (g := gb404) (o := .cells #[.string (⟨#[]⟩ : ByteArray), .string (⟨#[]⟩ : ByteArray)] 130 (0, 0)) (zB BK404.out)) : gb405 ≠ gb404)); replace BK404 := am (blk_below (g := gb404) (o := .cells #[.string (⟨#[]⟩ : ByteArray), .string (⟨#[]⟩ : ByteArray)] 130 (0, 0)) (zB BK404.out) hb); clear hb hbox hg; have hnb5 := NB403_404.out; have hnc5 := NB404_403.out; have hnb6 := NB403_405.out; have hnc6 := NB405_403.out; have hcz7_0 : w4.cell? ⟨gb403, 0, none⟩ = some (.string a0_0) := bc BK403.out 0; have hcz7_1 : w4.cell? ⟨gb403, 1, none⟩ = some (.string a0_1) := bc BK403.out 1; have hfz7_0 := blk_frozen BK403.out 0; have hfz7_1 := blk_frozen BK403.out 1; have hnb8 := NB405_404.out; have hnc8 := NB404_405.out; have hcz9_0 : w4.cell? ⟨gb405, 0, none⟩ = some (.string (⟨#[]⟩ : ByteArray)) := bc BK405.out 0; have hcz9_1 : w4.cell? ⟨gb405, 1, none⟩ = some (.string (⟨#[]⟩ : ByteArray)) := bc BK405.out 1; have hfz9_0 := blk_frozen BK405.out 0; have hfz9_1 := blk_frozen BK405.out 1; have hcz10_0 : w4.cell? ⟨gb404, 0, none⟩ = some (.string (⟨#[]⟩ : ByteArray)) := bc BK404.out 0; have hcz10_1 : w4.cell? ⟨gb404, 1, none⟩ = some (.string (⟨#[]⟩ : ByteArray)) := bc BK404.out 1; have hfz10_0 := blk_frozen BK404.out 0; have hfz10_1 := blk_frozen BK404.out 1))
 refine bodyPost_ret (results_cell_row rfl _ _ gb404 130 #[.string a0_0, .string a0_1] (0, 0) _ rfl (by (with_reducible repeat (first | refine bN_ ?_ _ | refine bD_ ?_ | refine bA_ ?_ _)); refine blk_put (cs := #[.string a0_0, .string (⟨#[]⟩ : ByteArray)]) ?_ 1 _ rfl; (with_reducible repeat (first | refine bN_ ?_ _ | refine bD_ ?_ | refine bA_ ?_ _)); refine blk_put (cs := #[.string (⟨#[]⟩ : ByteArray), .string (⟨#[]⟩ : ByteArray)]) ?_ 0 _ rfl; (with_reducible repeat (first | refine bN_ ?_ _ | refine bD_ ?_ | refine bA_ ?_ _)); refine blk_far ?_ NB404_405.out _; (with_reducible repeat (first | refine bN_ ?_ _ | refine bD_ ?_ | refine bA_ ?_ _)); refine blk_far ?_ NB404_405.out _; (with_reducible repeat (first | refine bN_ ?_ _ | refine bD_ ?_ | refine bA_ ?_ _)); exact BK404.out) Tryz.underlying130 rfl zb17) rfl ?_
 exact ⟨zb12, (by repeat (first | (with_reducible first | exact HB.out | apply below_alloc | apply pw_below_drewN | apply below_drew1 | refine below_set ?_ GE403.out | refine below_set ?_ GE404.out | refine below_set ?_ GE405.out) | exact HB.out))⟩
set_option maxHeartbeats 8000000 in
set_option maxRecDepth 100000 in
theorem laws_toSumS.calls (k : Nat) (A0 : Option Addr) (c0 : Nat) (l0 : List (S185)) (r : List (S130)) (w : World) (hr0 : Kd.C k185 w A0 l0.length l0) (hc0 : l0.length ≤ c0) (h : laws_toSumS.f k l0 = some r) :
  Calls Tryz.prog 165 #[.slice A0 l0.length c0] w fun e w' => ∃ v0_ : Value, e = .returned (v0_) ∧ Kd.R k130 130 w' w.heap.size (fun _ => True) v0_ r ∧ Below w.heap.size w w' := by
 have hu185 := Tryz.underlying185
 have hu130 := Tryz.underlying130
 have HR0 := am hr0
 have HC0 := am hc0
 clear hr0 hc0
 have HB := am (Below.refl w.heap.size w)
 have H : (if 0 ≤ (l0.length : Int) then (if ((l0.length : Int) : Int).toNat ≤ 8796093022208 then (laws_toSumS.l0 k l0 (List.replicate ((l0.length : Int) : Int).toNat z130) 0) else (none)) else (none)) = some r := h
 clear h
 by_cases c2 : 0 ≤ (l0.length : Int)
 ·rw [if_pos c2] at H
  have c2b0 := eq_true c2
  have c2b1 : decide (0 ≤ (l0.length : Int)) = true := decide_eq_true c2
  clear c2
  by_cases c3 : ((l0.length : Int) : Int).toNat ≤ 8796093022208
  ·rw [if_pos c3] at H
   have c3b0 := eq_true c3
   have c3b1 : decide (((l0.length : Int) : Int).toNat ≤ 8796093022208) = true := decide_eq_true c3
   clear c3
   obtain ⟨y406, hy406⟩ : ∃ y_ : List (S130), y_ = (List.replicate ((l0.length : Int) : Int).toNat z130) := ⟨_, rfl⟩
   replace H : (laws_toSumS.l0 k l0 y406 0) = some r := by first | (rw [hy406]; with_reducible exact H) | (have H2_ := (Option.bind_some _ _).symm.trans H; rw [hy406]; with_reducible exact H2_) | (have H2_ := (Option.bind_some _ _).symm.trans H; with_reducible exact H2_) | with_reducible exact H | (rw [hy406]; exact H) | exact H
   have Ny406 := am hy406
   clear hy406
   have H' := am H
   clear H
   go_enter Tryz.func165, Tryz.ntmps165
   go_wp2_with (first | ((with_reducible refine gate_dst (N := 7) rfl ?_); refine Kd.R_make k130 _ 130 rfl (N := 7) rfl 45 _ _ rfl (l0.length : Int) rfl rfl Tryz.underlying45 (.agg #[(.string ⟨#[]⟩), (.string ⟨#[]⟩)]) 32 info130 rfl zb36 (by omega) z130 (ok := fun _ => True) (okp := fun _ => True) (k130_mkM _ _ _ z130 ) (fun _ hk => hk) trivial (of_decide_eq_true zb6) (Nat.le_trans (Nat.mul_le_mul_right _ (of_decide_eq_true zb6 : (l0.length : Int).toNat ≤ 8796093022208)) (by omega)) (Below.refl _ _) (Nat.le_refl _) ?_; intro v407 w4 ho5 hb hg_ hnew_; clear hg_ hnew_; (first | rw [← Ny406.out] at ho5 | (simp only [Int.reduceToNat] at ho5; rw [← Ny406.out] at ho5)); have HO408 := am (Kd.R_lower ho5 (below_size zb0)); replace HB := am (below_step zb0 hb); clear hb ho5))
   go_loopg [4] k (fun kq v4 w' => ∃ (x3_1 : List (S130)) (x4_1 : Int), v4 = .int .i64 x4_1 ∧ Aside0 (laws_toSumS.l0 kq l0 x3_1 x4_1 = some r) ∧ Aside0 (kq ≤ k) ∧ Aside0 (Kd.R k130 130 w' w.heap.size (fun _ => True) v407 x3_1) ∧ Aside0 (Below w.heap.size w w'))
   case atStart => exact ⟨(y406), (0), zb3, H', ⟨Nat.le_refl _⟩, ⟨(zR HO408.out)⟩, ⟨zb0⟩⟩
   case round =>
    clear H'
    try clear c1
    try clear c2
    try clear c2b0
    try clear c2b1
    try clear p2
    try clear c3
    try clear c3b0
    try clear c3b1
    obtain ⟨x3_1, x4_1, rfl, HA, HK1, HO_3, HB⟩ := hrel
    cases gk with
    | zero => exact absurd HA.out (by simp [laws_toSumS.l0])
    | succ k1 =>
     have H := HA.out
     clear HA
     simp only [laws_toSumS.l0] at H
     by_cases c6 : x4_1 < (l0.length : Int)
     ·rw [if_pos c6] at H
      have c6b0 : decide (x4_1 < (l0.length : Int)) = true := decide_eq_true c6
      clear c6
      by_cases c7 : 0 ≤ x4_1
      ·rw [if_pos c7] at H
       have c7b0 : decide (0 ≤ x4_1) = true := decide_eq_true c7
       clear c7
       replace H := Option.bind_eq_some_iff.mp H
       obtain ⟨⟨t410, t411⟩, A80, H⟩ := H
       try dsimp only at H
       have A8 := am A80
       clear A80
       by_cases c9 : x4_1 < (x3_1.length : Int)
       ·rw [if_pos c9] at H
        have c9b0 : decide (x4_1 < (x3_1.length : Int)) = true := decide_eq_true c9
        clear c9
        obtain ⟨y412, hy412⟩ : ∃ y_ : List (S130), y_ = (x3_1.set (x4_1 : Int).toNat (⟨t410, t411⟩ : S130)) := ⟨_, rfl⟩
        replace H : (laws_toSumS.l0 k1 l0 y412 (wrap64 (x4_1 + 1))) = some r := by first | (rw [hy412]; with_reducible exact H) | (have H2_ := (Option.bind_some _ _).symm.trans H; rw [hy412]; with_reducible exact H2_) | (have H2_ := (Option.bind_some _ _).symm.trans H; with_reducible exact H2_) | with_reducible exact H | (rw [hy412]; exact H) | exact H
        have Ny412 := am hy412
        clear hy412
        have H' := am H
        clear H
        have p409 : 0 ≤ (x4_1 : Int) := of_decide_eq_true zb6
        have q409 : x4_1 < (l0.length : Int) := of_decide_eq_true zb6
        obtain ⟨ad409, e409, hx409_0, hx409_1⟩ := at_T185 HR0.out x4_1 p409 q409
        cases e409
        replace hx409_0 := (HB.out.cell (World.block_lt_of_cell? w _ hx409_0)).trans hx409_0
        replace hx409_1 := (HB.out.cell (World.block_lt_of_cell? w _ hx409_1)).trans hx409_1
        replace p409 := eq_true p409
        replace q409 := eq_true q409
        go_wp2_with (first | ((with_reducible refine gate_callee (f := 199) rfl ?_); refine goesL_ (some 20) rfl rfl Tryz.func199 zb17 rfl #[.agg #[.string ((rd_T185 l0 x4_1).f0), .string ((rd_T185 l0 x4_1).f1)]] rfl zb4 ?_; (with_reducible refine (laws_toSum.calls ((rd_T185 l0 x4_1).f0) ((rd_T185 l0 x4_1).f1) t410 t411 _ A8.out).mono ?_); rintro e w11 ⟨rfl, hb⟩; refine ⟨_, rfl, ?_⟩; replace HO_3 := am (Kd.R_below (zR HO_3.out) hb); replace HB := am (below_step zb0 hb); (try clear hb); have p10 : 0 ≤ (x4_1 : Int) := of_decide_eq_true zb6; have q10 : (x4_1 : Int) < ((x3_1.length : Int) : Int) := of_decide_eq_true zb6; obtain ⟨go10, co10, eo10, gb10, gl10, cl10, HG10⟩ := Kd.R_form HO_3.out (by omega); (first | cases eo10 | (injection eo10 with ea_ en_ ec_; (first | subst ea_ | (injection ea_ with ea_; subst ea_)); subst ec_; clear en_)); have GB10 := am gb10; have GG10 := am HG10; clear gb10 gl10 HG10; obtain ⟨ce10, hcl10, hM10, hcc10, hfr10⟩ := Kd.R_elem HO_3.out z130 (x4_1 : Int) p10 q10; obtain rfl := k130_openM hM10; have hx10_0 : w11.cell? ⟨go10, (x4_1 : Int).toNat * 2, none⟩ = some (.string ((rd_T130 x3_1 x4_1).f0)) := hcc10 0 _ rfl; have hx10_1 : w11.cell? ⟨go10, (x4_1 : Int).toNat * 2 + 1, none⟩ = some (.string ((rd_T130 x3_1 x4_1).f1)) := hcc10 1 _ rfl; have hf10_0 : w11.frozen? ⟨go10, (x4_1 : Int).toNat * 2, none⟩ = false := hfr10 0; have hf10_1 : w11.frozen? ⟨go10, (x4_1 : Int).toNat * 2 + 1, none⟩ = false := hfr10 1; clear hcl10 hcc10 hfr10 hM10; replace p10 := eq_true p10; replace q10 := eq_true q10; have HX12 := am (show Kd.R k130 130 w11 w.heap.size (fun _ => True) (.slice (some ⟨go10, 0, none⟩) x3_1.length co10) x3_1 from (zR HO_3.out)); obtain ⟨ce12, hcl12, hM12, hcc12, hfr12⟩ := Kd.R_elem HX12.out z130 (x4_1 : Int) (of_decide_eq_true zb6) (by have h_ : (x4_1 : Int) < ((x3_1.length : Int) : Int) := of_decide_eq_true zb6; first | exact h_ | (have e_ := (Kd.R_reads' HO_3.out).1; omega) | simpa using h_); obtain rfl := k130_openM hM12; have HP12 := Kd.R_seg HX12.out (x4_1 : Int) (of_decide_eq_true zb6) (by have h_ : (x4_1 : Int) < ((x3_1.length : Int) : Int) := of_decide_eq_true zb6; first | exact h_ | (have e_ := (Kd.R_reads' HO_3.out).1; omega) | simpa using h_) (seg := [.string t410, .string t411]) (j := 0) hcl12 hcc12 (show 2 ≤ 2 from zb36) (x' := (⟨t410, t411⟩ : S130)) (k130_mkM _ _ _ (⟨t410, t411⟩ : S130) ) (fun _ hk => hk); have hx12_0 := hcc12 0 _ rfl; (try simp only [show (k130).sz = 2 from rfl, Nat.mul_one, Nat.add_zero] at hx12_0); have hf12_0 := hfr12 0; (try simp only [show (k130).sz = 2 from rfl, Nat.mul_one, Nat.add_zero] at hf12_0); have hx12_1 := hcc12 1 _ rfl; (try simp only [show (k130).sz = 2 from rfl, Nat.mul_one, Nat.add_zero] at hx12_1); have hf12_1 := hfr12 1; (try simp only [show (k130).sz = 2 from rfl, Nat.mul_one, Nat.add_zero] at hf12_1); clear hcl12 hcc12 hfr12 hM12) | ((with_reducible refine gate_store (t := 130) (p := 21) rfl ?_); refine store_event (t := 130) (p := 21) (v := ?vo_w13) (w1 := ((w11.setCell ⟨go10, (x4_1 : Int).toNat * 2, none⟩ (.string t410)).setCell ⟨go10, (x4_1 : Int).toNat * 2 + 1, none⟩ (.string t411))) ?hg ?ho ?hn ?hr ?_; (case ho => rfl); (case hg => rfl); (case hn => rfl); (case hr => exact zb13); intro w13 hw; have hg : w11.grownBy w13 (some go10) := (by rw [hw]; exact HP12.2); have hp_ : Kd.R k130 130 w13 w.heap.size (fun _ => True) (.slice (some ⟨go10, 0, none⟩) x3_1.length co10) y412 := (by rw [hw, Ny412.out]; exact HP12.1); clear HP12; replace HO_3 := am hp_; replace HB := am ((by rw [hw]; exact below_set (below_set (HB.out) GB10.out) GB10.out : Below w.heap.size w w13)); clear hg hw hp_))
        go_roundg k1
        case measure => have := HK1.out; omega
        case rel => exact ⟨(y412), (wrap64 (x4_1 + 1)), zb3, H', ⟨by have := HK1.out; omega⟩, ⟨(zR HO_3.out)⟩, ⟨zb0⟩⟩
       ·rw [if_neg c9] at H
        exact absurd H zb44
      ·rw [if_neg c7] at H
       exact absurd H zb44
     ·rw [if_neg c6] at H
      have c6b0 : decide (x4_1 < (l0.length : Int)) = false := decide_eq_false c6
      clear c6
      obtain rfl := Option.some.inj H
      go_wp2
      go_ret
      exact ⟨_, zb12, (zR HO_3.out), zb0⟩
  ·rw [if_neg c3] at H
   exact absurd H zb44
 ·rw [if_neg c2] at H
  exact absurd H zb44
set_option maxHeartbeats 8000000 in
set_option maxRecDepth 100000 in
theorem laws_toPack.calls (k : Nat) (a0_0 : ByteArray) (a0_1 : ByteArray) (a0_2 : ByteArray) (A0_3 : Option Addr) (c0_3 : Nat) (l0_3 : List (S185)) (a0_4 : Bool) (A0_5 : Option Addr) (c0_5 : Nat) (l0_5 : List ByteArray) (r1 : ByteArray) (r2 : ByteArray) (r3 : ByteArray) (r4 : List (S130)) (r5 : Bool) (r6 : List ByteArray) (w : World) (hr0_3 : Kd.C k185 w A0_3 l0_3.length l0_3) (hc0_3 : l0_3.length ≤ c0_3) (hr0_5 : Kd.C Kd.string w A0_5 l0_5.length l0_5) (hc0_5 : l0_5.length ≤ c0_5) (h : laws_toPack.f k a0_0 a0_1 a0_2 l0_3 a0_4 l0_5 = some (r1, r2, r3, r4, r5, r6)) :
  Calls Tryz.prog 124 #[.agg #[.string a0_0, .string a0_1, .string a0_2, .slice A0_3 l0_3.length c0_3, .bool a0_4, .slice A0_5 l0_5.length c0_5]] w fun e w' => ∃ v3_ v5_ : Value, e = .returned (.agg #[.string r1, .string r2, .string r3, v3_, .bool r5, v5_]) ∧ Kd.R k130 130 w' w.heap.size (fun _ => True) v3_ r4 ∧ Kd.R Kd.string 9 w' w.heap.size (fun _ => True) v5_ r6 ∧ Below w.heap.size w w' := by
 have hu139 := Tryz.underlying139
 have hu47 := Tryz.underlying47
 have HR0_3 := am hr0_3
 have HC0_3 := am hc0_3
 clear hr0_3 hc0_3
 have HR0_5 := am hr0_5
 have HC0_5 := am hc0_5
 clear hr0_5 hc0_5
 have HB := am (Below.refl w.heap.size w)
 have H : ((laws_toSumS.f k l0_3).bind fun t416 => ((laws_toStringS.f k l0_5).bind fun t419 => (some (a0_0, a0_1, a0_2, t416, a0_4, t419)))) = some (r1, r2, r3, r4, r5, r6) := h
 clear h
 replace H := Option.bind_eq_some_iff.mp H
 obtain ⟨t416, A20, H⟩ := H
 try dsimp only at H
 have A2 := am A20
 clear A20
 replace H := Option.bind_eq_some_iff.mp H
 obtain ⟨t419, A30, H⟩ := H
 try dsimp only at H
 have A3 := am A30
 clear A30
 simp only [Option.some.injEq, Prod.mk.injEq] at H
 obtain ⟨rfl, rfl, rfl, rfl, rfl, rfl⟩ := H
 go_enter Tryz.func124, Tryz.ntmps124
 go_wp2_with (first | ((with_reducible refine gate_dst (N := 1) rfl ?_); refine box_event ?hg (N := 1) ?hd (cs := #[.string a0_0, .string a0_1, .string a0_2, .slice A0_3 l0_3.length c0_3, .bool a0_4, .slice A0_5 l0_5.length c0_5]) (t := 139) ?hr ?_; (case hd => rfl); (case hg => rfl); (case hr => exact zb13); intro gb413 hg w4 hbox hb; have BK413 := am hbox; have GW413 := am ((by rw [hg]; exact (below_size zb0) : w.heap.size ≤ gb413)); have GE413 := am ((by rw [hg]; exact (below_size zb0) : w.heap.size ≤ gb413)); replace HB := am (below_step zb0 hb); clear hb hbox hg) | ((with_reducible refine gate_dst (N := 2) rfl ?_); refine box_event ?hg (N := 2) ?hd (cs := #[.string (⟨#[]⟩ : ByteArray), .string (⟨#[]⟩ : ByteArray), .string (⟨#[]⟩ : ByteArray), .slice none 0 0, .bool false, .slice none 0 0]) (t := 47) ?hr ?_; (case hd => rfl); (case hg => rfl); (case hr => exact zb13); intro gb414 hg w5 hbox hb; have BK414 := am hbox; have GW414 := am ((by rw [hg]; exact (below_size zb28) : w.heap.size ≤ gb414)); have GE414 := am ((by rw [hg]; exact (below_size zb28) : w.heap.size ≤ gb414)); replace HB := am (below_step zb28 hb); have NB413_414 := am ((by rw [hg]; exact Nat.ne_of_lt (blk_lt (g := gb413) (o := .cells #[.string a0_0, .string a0_1, .string a0_2, .slice A0_3 l0_3.length c0_3, .bool a0_4, .slice A0_5 l0_5.length c0_5] 139 (0, 0)) (zB BK413.out)) : gb413 ≠ gb414)); have NB414_413 := am ((by rw [hg]; exact Nat.ne_of_gt (blk_lt (g := gb413) (o := .cells #[.string a0_0, .string a0_1, .string a0_2, .slice A0_3 l0_3.length c0_3, .bool a0_4, .slice A0_5 l0_5.length c0_5] 139 (0, 0)) (zB BK413.out)) : gb414 ≠ gb413)); replace BK413 := am (blk_below (g := gb413) (o := .cells #[.string a0_0, .string a0_1, .string a0_2, .slice A0_3 l0_3.length c0_3, .bool a0_4, .slice A0_5 l0_5.length c0_5] 139 (0, 0)) (zB BK413.out) hb); clear hb hbox hg) | ((with_reducible refine gate_dst (N := 3) rfl ?_); refine box_event ?hg (N := 3) ?hd (cs := #[.string (⟨#[]⟩ : ByteArray), .string (⟨#[]⟩ : ByteArray), .string (⟨#[]⟩ : ByteArray), .slice none 0 0, .bool false, .slice none 0 0]) (t := 47) ?hr ?_; (case hd => rfl); (case hg => rfl); (case hr => exact zb13); intro gb415 hg w6 hbox hb; have BK415 := am hbox; have GW415 := am ((by rw [hg]; exact (below_size zb21) : w.heap.size ≤ gb415)); have GE415 := am ((by rw [hg]; exact (below_size zb21) : w.heap.size ≤ gb415)); replace HB := am (below_step zb21 hb); have NB413_415 := am ((by rw [hg]; exact Nat.ne_of_lt (blk_lt (g := gb413) (o := .cells #[.string a0_0, .string a0_1, .string a0_2, .slice A0_3 l0_3.length c0_3, .bool a0_4, .slice A0_5 l0_5.length c0_5] 139 (0, 0)) (zB BK413.out)) : gb413 ≠ gb415)); have NB415_413 := am ((by rw [hg]; exact Nat.ne_of_gt (blk_lt (g := gb413) (o := .cells #[.string a0_0, .string a0_1, .string a0_2, .slice A0_3 l0_3.length c0_3, .bool a0_4, .slice A0_5 l0_5.length c0_5] 139 (0, 0)) (zB BK413.out)) : gb415 ≠ gb413)); replace BK413 := am (blk_below (g := gb413) (o := .cells #[.string a0_0, .string a0_1, .string a0_2, .slice A0_3 l0_3.length c0_3, .bool a0_4, .slice A0_5 l0_5.length c0_5] 139 (0, 0)) (zB BK413.out) hb); have NB414_415 := am ((by rw [hg]; exact Nat.ne_of_lt (blk_lt (g := gb414) (o := .cells #[.string (⟨#[]⟩ : ByteArray), .string (⟨#[]⟩ : ByteArray), .string (⟨#[]⟩ : ByteArray), .slice none 0 0, .bool false, .slice none 0 0] 47 (0, 0)) (zB BK414.out)) : gb414 ≠ gb415)); have NB415_414 := am ((by rw [hg]; exact Nat.ne_of_gt (blk_lt (g := gb414) (o := .cells #[.string (⟨#[]⟩ : ByteArray), .string (⟨#[]⟩ : ByteArray), .string (⟨#[]⟩ : ByteArray), .slice none 0 0, .bool false, .slice none 0 0] 47 (0, 0)) (zB BK414.out)) : gb415 ≠ gb414)); replace BK414 := am (blk_below (g := gb414) (o := .cells #[.string (⟨#[]⟩ : ByteArray), .string (⟨#[]⟩ : ByteArray), .string (⟨#[]⟩ : ByteArray), .slice none 0 0, .bool false, .slice none 0 0] 47 (0, 0)) (zB BK414.out) hb); clear hb hbox hg; have hnb7 := NB413_414.out; have hnc7 := NB414_413.out; have hnb8 := NB413_415.out; have hnc8 := NB415_413.out; have hcz9_0 : w6.cell? ⟨gb413, 0, none⟩ = some (.string a0_0) := bc BK413.out 0; have hcz9_1 : w6.cell? ⟨gb413, 1, none⟩ = some (.string a0_1) := bc BK413.out 1; have hcz9_2 : w6.cell? ⟨gb413, 2, none⟩ = some (.string a0_2) := bc BK413.out 2; have hcz9_3 : w6.cell? ⟨gb413, 3, none⟩ = some (.slice A0_3 l0_3.length c0_3) := bc BK413.out 3; have hcz9_4 : w6.cell? ⟨gb413, 4, none⟩ = some (.bool a0_4) := bc BK413.out 4; have hcz9_5 : w6.cell? ⟨gb413, 5, none⟩ = some (.slice A0_5 l0_5.length c0_5) := bc BK413.out 5; have hfz9_0 := blk_frozen BK413.out 0; have hfz9_1 := blk_frozen BK413.out 1; have hfz9_2 := blk_frozen BK413.out 2; have hfz9_3 := blk_frozen BK413.out 3; have hfz9_4 := blk_frozen BK413.out 4; have hfz9_5 := blk_frozen BK413.out 5; have hnb10 := NB415_414.out; have hnc10 := NB414_415.out; have hcz11_0 : w6.cell? ⟨gb415, 0, none⟩ = some (.string (⟨#[]⟩ : ByteArray)) := bc BK415.out 0; have hcz11_1 : w6.cell? ⟨gb415, 1, none⟩ = some (.string (⟨#[]⟩ : ByteArray)) := bc BK415.out 1; have hcz11_2 : w6.cell? ⟨gb415, 2, none⟩ = some (.string (⟨#[]⟩ : ByteArray)) := bc BK415.out 2; have hcz11_3 : w6.cell? ⟨gb415, 3, none⟩ = some (.slice none 0 0) := bc BK415.out 3; have hcz11_4 : w6.cell? ⟨gb415, 4, none⟩ = some (.bool false) := bc BK415.out 4; have hcz11_5 : w6.cell? ⟨gb415, 5, none⟩ = some (.slice none 0 0) := bc BK415.out 5; have hfz11_0 := blk_frozen BK415.out 0; have hfz11_1 := blk_frozen BK415.out 1; have hfz11_2 := blk_frozen BK415.out 2; have hfz11_3 := blk_frozen BK415.out 3; have hfz11_4 := blk_frozen BK415.out 4; have hfz11_5 := blk_frozen BK415.out 5) | ((with_reducible refine gate_callee (f := 165) rfl ?_); refine goesL_ (some 15) rfl rfl Tryz.func165 zb17 rfl #[.slice A0_3 l0_3.length c0_3] rfl zb4 ?_; (with_reducible refine (laws_toSumS.calls k _ _ l0_3 t416 _ ?side1 ?side2 A2.out).mono ?_); (case side1 => exact Kd.C_below HR0_3.out zb11); (case side2 => exact HC0_3.out); rintro e w12 ⟨v417, rfl, ho0, hb⟩; refine ⟨_, rfl, ?_⟩; have HO418 := am (Kd.R_lower ho0 (below_size zb11)); replace BK413 := am (blk_below (g := gb413) (o := .cells #[.string a0_0, .string a0_1, .string a0_2, .slice A0_3 l0_3.length c0_3, .bool a0_4, .slice A0_5 l0_5.length c0_5] 139 (0, 0)) (by (with_reducible repeat (first | refine bN_ ?_ _ | refine bD_ ?_ | refine bA_ ?_ _)); refine blk_far ?_ NB413_415.out _; (with_reducible repeat (first | refine bN_ ?_ _ | refine bD_ ?_ | refine bA_ ?_ _)); refine blk_far ?_ NB413_415.out _; (with_reducible repeat (first | refine bN_ ?_ _ | refine bD_ ?_ | refine bA_ ?_ _)); refine blk_far ?_ NB413_415.out _; (with_reducible repeat (first | refine bN_ ?_ _ | refine bD_ ?_ | refine bA_ ?_ _)); exact BK413.out) hb); replace BK414 := am (blk_below (g := gb414) (o := .cells #[.string (⟨#[]⟩ : ByteArray), .string (⟨#[]⟩ : ByteArray), .string (⟨#[]⟩ : ByteArray), .slice none 0 0, .bool false, .slice none 0 0] 47 (0, 0)) (by (with_reducible repeat (first | refine bN_ ?_ _ | refine bD_ ?_ | refine bA_ ?_ _)); refine blk_far ?_ NB414_415.out _; (with_reducible repeat (first | refine bN_ ?_ _ | refine bD_ ?_ | refine bA_ ?_ _)); refine blk_far ?_ NB414_415.out _; (with_reducible repeat (first | refine bN_ ?_ _ | refine bD_ ?_ | refine bA_ ?_ _)); refine blk_far ?_ NB414_415.out _; (with_reducible repeat (first | refine bN_ ?_ _ | refine bD_ ?_ | refine bA_ ?_ _)); exact BK414.out) hb); replace BK415 := am (blk_below (g := gb415) (o := .cells #[.string a0_0, .string a0_1, .string a0_2, .slice none 0 0, .bool false, .slice none 0 0] 47 (0, 0)) (by (with_reducible repeat (first | refine bN_ ?_ _ | refine bD_ ?_ | refine bA_ ?_ _)); refine blk_put (cs := #[.string a0_0, .string a0_1, .string (⟨#[]⟩ : ByteArray), .slice none 0 0, .bool false, .slice none 0 0]) ?_ 2 _ rfl; (with_reducible repeat (first | refine bN_ ?_ _ | refine bD_ ?_ | refine bA_ ?_ _)); refine blk_put (cs := #[.string a0_0, .string (⟨#[]⟩ : ByteArray), .string (⟨#[]⟩ : ByteArray), .slice none 0 0, .bool false, .slice none 0 0]) ?_ 1 _ rfl; (with_reducible repeat (first | refine bN_ ?_ _ | refine bD_ ?_ | refine bA_ ?_ _)); refine blk_put (cs := #[.string (⟨#[]⟩ : ByteArray), .string (⟨#[]⟩ : ByteArray), .string (⟨#[]⟩ : ByteArray), .slice none 0 0, .bool false, .slice none 0 0]) ?_ 0 _ rfl; (with_reducible repeat (first | refine bN_ ?_ _ | refine bD_ ?_ | refine bA_ ?_ _)); exact BK415.out) hb); replace HB := am (below_step zb11 hb); (try clear hb); (try clear ho0); obtain ⟨Ao13, co13, eo13⟩ := Kd.R_slice HO418.out; subst eo13; have hcz14_0 : w12.cell? ⟨gb415, 0, none⟩ = some (.string a0_0) := bc BK415.out 0; have hcz14_1 : w12.cell? ⟨gb415, 1, none⟩ = some (.string a0_1) := bc BK415.out 1; have hcz14_2 : w12.cell? ⟨gb415, 2, none⟩ = some (.string a0_2) := bc BK415.out 2; have hcz14_3 : w12.cell? ⟨gb415, 3, none⟩ = some (.slice none 0 0) := bc BK415.out 3; have hcz14_4 : w12.cell? ⟨gb415, 4, none⟩ = some (.bool false) := bc BK415.out 4; have hcz14_5 : w12.cell? ⟨gb415, 5, none⟩ = some (.slice none 0 0) := bc BK415.out 5; have hfz14_0 := blk_frozen BK415.out 0; have hfz14_1 := blk_frozen BK415.out 1; have hfz14_2 := blk_frozen BK415.out 2; have hfz14_3 := blk_frozen BK415.out 3; have hfz14_4 := blk_frozen BK415.out 4; have hfz14_5 := blk_frozen BK415.out 5; have hcz15_0 : w12.cell? ⟨gb413, 0, none⟩ = some (.string a0_0) := bc BK413.out 0; have hcz15_1 : w12.cell? ⟨gb413, 1, none⟩ = some (.string a0_1) := bc BK413.out 1; have hcz15_2 : w12.cell? ⟨gb413, 2, none⟩ = some (.string a0_2) := bc BK413.out 2; have hcz15_3 : w12.cell? ⟨gb413, 3, none⟩ = some (.slice A0_3 l0_3.length c0_3) := bc BK413.out 3; have hcz15_4 : w12.cell? ⟨gb413, 4, none⟩ = some (.bool a0_4) := bc BK413.out 4; have hcz15_5 : w12.cell? ⟨gb413, 5, none⟩ = some (.slice A0_5 l0_5.length c0_5) := bc BK413.out 5; have hfz15_0 := blk_frozen BK413.out 0; have hfz15_1 := blk_frozen BK413.out 1; have hfz15_2 := blk_frozen BK413.out 2; have hfz15_3 := blk_frozen BK413.out 3; have hfz15_4 := blk_frozen BK413.out 4; have hfz15_5 := blk_frozen BK413.out 5) | ((with_reducible refine gate_callee (f := 79) rfl ?_); refine goesL_ (some 22) rfl rfl Tryz.func79 zb17 rfl #[.slice A0_5 l0_5.length c0_5] rfl zb4 ?_; (with_reducible refine (laws_toStringS.calls k _ _ l0_5 t419 _ ?side1 ?side2 A3.out).mono ?_); (case side1 => exact Kd.C_below HR0_5.out zb11); (case side2 => exact HC0_5.out); rintro e w16 ⟨v420, rfl, ho0, hb⟩; refine ⟨_, rfl, ?_⟩; replace HO418 := am (Kd.R_below (zR (Kd.R_mono (Kd.R_far (p := ⟨gb415, 4, none⟩) (Kd.R_far (p := ⟨gb415, 3, none⟩) (Kd.R_types HO418.out BK415.out zb36) (fun _ hk => hk.2) (.slice Ao13 t416.length co13)) (fun _ hk => hk.2) (.bool a0_4)) (fun _ h_ => h_.1))) hb); have HO421 := am (Kd.R_lower ho0 (below_size zb11)); replace BK413 := am (blk_below (g := gb413) (o := .cells #[.string a0_0, .string a0_1, .string a0_2, .slice A0_3 l0_3.length c0_3, .bool a0_4, .slice A0_5 l0_5.length c0_5] 139 (0, 0)) (by (with_reducible repeat (first | refine bN_ ?_ _ | refine bD_ ?_ | refine bA_ ?_ _)); refine blk_far ?_ NB413_415.out _; (with_reducible repeat (first | refine bN_ ?_ _ | refine bD_ ?_ | refine bA_ ?_ _)); refine blk_far ?_ NB413_415.out _; (with_reducible repeat (first | refine bN_ ?_ _ | refine bD_ ?_ | refine bA_ ?_ _)); exact BK413.out) hb); replace BK414 := am (blk_below (g := gb414) (o := .cells #[.string (⟨#[]⟩ : ByteArray), .string (⟨#[]⟩ : ByteArray), .string (⟨#[]⟩ : ByteArray), .slice none 0 0, .bool false, .slice none 0 0] 47 (0, 0)) (by (with_reducible repeat (first | refine bN_ ?_ _ | refine bD_ ?_ | refine bA_ ?_ _)); refine blk_far ?_ NB414_415.out _; (with_reducible repeat (first | refine bN_ ?_ _ | refine bD_ ?_ | refine bA_ ?_ _)); refine blk_far ?_ NB414_415.out _; (with_reducible repeat (first | refine bN_ ?_ _ | refine bD_ ?_ | refine bA_ ?_ _)); exact BK414.out) hb); replace BK415 := am (blk_below (g := gb415) (o := .cells #[.string a0_0, .string a0_1, .string a0_2, .slice Ao13 t416.length co13, .bool a0_4, .slice none 0 0] 47 (0, 0)) (by (with_reducible repeat (first | refine bN_ ?_ _ | refine bD_ ?_ | refine bA_ ?_ _)); refine blk_put (cs := #[.string a0_0, .string a0_1, .string a0_2, .slice Ao13 t416.length co13, .bool false, .slice none 0 0]) ?_ 4 _ rfl; (with_reducible repeat (first | refine bN_ ?_ _ | refine bD_ ?_ | refine bA_ ?_ _)); refine blk_put (cs := #[.string a0_0, .string a0_1, .string a0_2, .slice none 0 0, .bool false, .slice none 0 0]) ?_ 3 _ rfl; (with_reducible repeat (first | refine bN_ ?_ _ | refine bD_ ?_ | refine bA_ ?_ _)); exact BK415.out) hb); replace HB := am (below_step zb11 hb); (try clear hb); (try clear ho0); obtain ⟨Ao17, co17, eo17⟩ := Kd.R_slice HO421.out; subst eo17; have hcz18_0 : w16.cell? ⟨gb415, 0, none⟩ = some (.string a0_0) := bc BK415.out 0; have hcz18_1 : w16.cell? ⟨gb415, 1, none⟩ = some (.string a0_1) := bc BK415.out 1; have hcz18_2 : w16.cell? ⟨gb415, 2, none⟩ = some (.string a0_2) := bc BK415.out 2; have hcz18_3 : w16.cell? ⟨gb415, 3, none⟩ = some (.slice Ao13 t416.length co13) := bc BK415.out 3; have hcz18_4 : w16.cell? ⟨gb415, 4, none⟩ = some (.bool a0_4) := bc BK415.out 4; have hcz18_5 : w16.cell? ⟨gb415, 5, none⟩ = some (.slice none 0 0) := bc BK415.out 5; have hfz18_0 := blk_frozen BK415.out 0; have hfz18_1 := blk_frozen BK415.out 1; have hfz18_2 := blk_frozen BK415.out 2; have hfz18_3 := blk_frozen BK415.out 3; have hfz18_4 := blk_frozen BK415.out 4; have hfz18_5 := blk_frozen BK415.out 5; have hcz19_0 : w16.cell? ⟨gb414, 0, none⟩ = some (.string (⟨#[]⟩ : ByteArray)) := bc BK414.out 0; have hcz19_1 : w16.cell? ⟨gb414, 1, none⟩ = some (.string (⟨#[]⟩ : ByteArray)) := bc BK414.out 1; have hcz19_2 : w16.cell? ⟨gb414, 2, none⟩ = some (.string (⟨#[]⟩ : ByteArray)) := bc BK414.out 2; have hcz19_3 : w16.cell? ⟨gb414, 3, none⟩ = some (.slice none 0 0) := bc BK414.out 3; have hcz19_4 : w16.cell? ⟨gb414, 4, none⟩ = some (.bool false) := bc BK414.out 4; have hcz19_5 : w16.cell? ⟨gb414, 5, none⟩ = some (.slice none 0 0) := bc BK414.out 5; have hfz19_0 := blk_frozen BK414.out 0; have hfz19_1 := blk_frozen BK414.out 1; have hfz19_2 := blk_frozen BK414.out 2; have hfz19_3 := blk_frozen BK414.out 3; have hfz19_4 := blk_frozen BK414.out 4; have hfz19_5 := blk_frozen BK414.out 5))
 refine bodyPost_ret (results_cell_row rfl _ _ gb414 47 #[.string a0_0, .string a0_1, .string a0_2, .slice Ao13 t416.length co13, .bool a0_4, .slice Ao17 t419.length co17] (0, 0) _ rfl (by (with_reducible repeat (first | refine bN_ ?_ _ | refine bD_ ?_ | refine bA_ ?_ _)); refine blk_put (cs := #[.string a0_0, .string a0_1, .string a0_2, .slice Ao13 t416.length co13, .bool a0_4, .slice none 0 0]) ?_ 5 _ rfl; (with_reducible repeat (first | refine bN_ ?_ _ | refine bD_ ?_ | refine bA_ ?_ _)); refine blk_put (cs := #[.string a0_0, .string a0_1, .string a0_2, .slice Ao13 t416.length co13, .bool false, .slice none 0 0]) ?_ 4 _ rfl; (with_reducible repeat (first | refine bN_ ?_ _ | refine bD_ ?_ | refine bA_ ?_ _)); refine blk_put (cs := #[.string a0_0, .string a0_1, .string a0_2, .slice none 0 0, .bool false, .slice none 0 0]) ?_ 3 _ rfl; (with_reducible repeat (first | refine bN_ ?_ _ | refine bD_ ?_ | refine bA_ ?_ _)); refine blk_put (cs := #[.string a0_0, .string a0_1, .string (⟨#[]⟩ : ByteArray), .slice none 0 0, .bool false, .slice none 0 0]) ?_ 2 _ rfl; (with_reducible repeat (first | refine bN_ ?_ _ | refine bD_ ?_ | refine bA_ ?_ _)); refine blk_put (cs := #[.string a0_0, .string (⟨#[]⟩ : ByteArray), .string (⟨#[]⟩ : ByteArray), .slice none 0 0, .bool false, .slice none 0 0]) ?_ 1 _ rfl; (with_reducible repeat (first | refine bN_ ?_ _ | refine bD_ ?_ | refine bA_ ?_ _)); refine blk_put (cs := #[.string (⟨#[]⟩ : ByteArray), .string (⟨#[]⟩ : ByteArray), .string (⟨#[]⟩ : ByteArray), .slice none 0 0, .bool false, .slice none 0 0]) ?_ 0 _ rfl; (with_reducible repeat (first | refine bN_ ?_ _ | refine bD_ ?_ | refine bA_ ?_ _)); refine blk_far ?_ NB414_415.out _; (with_reducible repeat (first | refine bN_ ?_ _ | refine bD_ ?_ | refine bA_ ?_ _)); exact BK414.out) Tryz.underlying47 rfl zb17) rfl ?_
 exact ⟨_, _, zb12, (zR (Kd.R_mono (Kd.R_far (p := ⟨gb414, 5, none⟩) (Kd.R_far (p := ⟨gb414, 4, none⟩) (Kd.R_far (p := ⟨gb414, 3, none⟩) (Kd.R_far (p := ⟨gb414, 2, none⟩) (Kd.R_far (p := ⟨gb414, 1, none⟩) (Kd.R_far (p := ⟨gb414, 0, none⟩) (Kd.R_far (p := ⟨gb415, 5, none⟩) (Kd.R_types (Kd.R_types HO418.out BK415.out zb36) BK414.out zb36) (fun _ hk => hk.1.2) (.slice Ao17 t419.length co17)) (fun _ hk => hk.2) (.string a0_0)) (fun _ hk => hk.2) (.string a0_1)) (fun _ hk => hk.2) (.string a0_2)) (fun _ hk => hk.2) (.slice Ao13 t416.length co13)) (fun _ hk => hk.2) (.bool a0_4)) (fun _ hk => hk.2) (.slice Ao17 t419.length co17)) (fun _ hk => trivial))), (zR (Kd.R_mono (Kd.R_far (p := ⟨gb414, 5, none⟩) (Kd.R_far (p := ⟨gb414, 4, none⟩) (Kd.R_far (p := ⟨gb414, 3, none⟩) (Kd.R_far (p := ⟨gb414, 2, none⟩) (Kd.R_far (p := ⟨gb414, 1, none⟩) (Kd.R_far (p := ⟨gb414, 0, none⟩) (Kd.R_far (p := ⟨gb415, 5, none⟩) (Kd.R_types (Kd.R_types HO421.out BK415.out zb36) BK414.out zb36) (fun _ hk => hk.1.2) (.slice Ao17 t419.length co17)) (fun _ hk => hk.2) (.string a0_0)) (fun _ hk => hk.2) (.string a0_1)) (fun _ hk => hk.2) (.string a0_2)) (fun _ hk => hk.2) (.slice Ao13 t416.length co13)) (fun _ hk => hk.2) (.bool a0_4)) (fun _ hk => hk.2) (.slice Ao17 t419.length co17)) (fun _ hk => trivial))), zb11⟩
end Go.Proofs.YtieohddolkeegaaGreatDoor.G

end
