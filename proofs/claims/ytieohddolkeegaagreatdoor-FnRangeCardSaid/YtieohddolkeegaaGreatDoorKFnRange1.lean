/- A part of the proof that the law FnRange answers true at every input that its row speaks of. Conditions: the row's own. -/
import Derived.Test.YtieohddolkeegaaGreatDoorKFnRange0
import Derived.Test.YtieohddolkeegaaGreatDoorShelf
section
namespace Go.Proofs.YtieohddolkeegaaGreatDoor.G
open Go.RowKit Go.Proofs.aA.aZ Go.Proofs.aA.jM Go.Proofs.aA.mW
attribute [local go_sem] qj ql uO uP o8 o9 qm qo
attribute [local go_sem high] Go.Proofs.YtieohddolkeegaaGreatDoor.G.sH Go.Proofs.YtieohddolkeegaaGreatDoor.G.sJ Go.Proofs.YtieohddolkeegaaGreatDoor.G.sK
set_option linter.unusedVariables false
set_option linter.unusedSimpArgs false
mutual
def ay.l0 : Nat → List Int → Int → Int → Int → Int → Int → List ByteArray → Option (Bool)
 | 0, _, _, _, _, _, _, _ => none
 | k + 1, Fe, x14, x15, xx, yA, yB, sN => if x15 < x14 then (if 0 ≤ x15 then (if x15 < (Fe.length : Int) then ((iJ.f (rd Fe x15) 0 999999999).bind fun t518 => (if t518 = true then (ay.l0 k Fe x14 (wrap64 (x15 + 1)) xx yA yB sN) else (some false))) else (none)) else (none)) else (ay.l1 k sN (sN.length : Int) 0 xx yA yB sN)
def ay.l1 : Nat → List ByteArray → Int → Int → Int → Int → Int → List ByteArray → Option (Bool)
 | 0, _, _, _, _, _, _, _ => none
 | k + 1, x24, x25, OB, xx, yA, yB, sN => if OB < x25 then (if 0 ≤ OB then (if OB < (x24.length : Int) then ((iJ.f ((iE ByteArray.empty x24 OB).size : Int) 1 20).bind fun t520 => (if t520 = true then ((aT.f k (iE ByteArray.empty x24 OB)).bind fun t521 => (if t521 = true then ((gU.f k (iE ByteArray.empty x24 OB)).bind fun t522 => (if t522 = true then ((dm.f (iE ByteArray.empty x24 OB)).bind fun t523 => (if t523 < 0 then (some false) else (ay.l1 k x24 x25 (wrap64 (OB + 1)) xx yA yB sN))) else (ay.l1 k x24 x25 (wrap64 (OB + 1)) xx yA yB sN))) else (some false))) else (some false))) else (none)) else (none)) else (some (decide ((sN.length : Int) ≤ 5)))
end
def ay.f (k : Nat) (iY : Int) (iq : Int) (jK : Int) (jE : List ByteArray) : Option (Bool) := (some (([iY, iq, jK] : List Int) : List Int)).bind fun y514 => (ay.l0 k y514 (y514.length : Int) 0 iY iq jK jE)
theorem ay.dV : ∀ k, (∀ y0 y1 y2 y3 y4 y5 y6, bz (ay.l0 k y0 y1 y2 y3 y4 y5 y6) (ay.l0 (k + 1) y0 y1 y2 y3 y4 y5 y6)) ∧ (∀ y0 y1 y2 y3 y4 y5 y6, bz (ay.l1 k y0 y1 y2 y3 y4 y5 y6) (ay.l1 (k + 1) y0 y1 y2 y3 y4 y5 y6))
 | 0 => ⟨fun _ _ _ _ _ _ _ r h => by simp [ay.l0] at h, fun _ _ _ _ _ _ _ r h => by simp [ay.l1] at h⟩
 | k + 1 => by
  obtain ⟨kF, ih1⟩ := ay.dV k
  refine ⟨?_, ?_⟩
  ·intro y0 y1 y2 y3 y4 y5 y6
   unfold ay.l0
   repeat' first
   | (with_reducible first | exact kF _ _ _ _ _ _ _ | exact ih1 _ _ _ _ _ _ _ | exact aT.mono _ _ | exact gU.mono _ _ | exact bz.refl _ | exact bz.none _ | refine bz.ite ?_ ?_ | refine bz.bind ?_ (fun _ => ?_))
  ·intro y0 y1 y2 y3 y4 y5 y6
   unfold ay.l1
   repeat' first
   | (with_reducible first | exact kF _ _ _ _ _ _ _ | exact ih1 _ _ _ _ _ _ _ | exact aT.mono _ _ | exact gU.mono _ _ | exact bz.refl _ | exact bz.none _ | refine bz.ite ?_ ?_ | refine bz.bind ?_ (fun _ => ?_))
theorem ay.mono : ∀ a0 a1 a2 a3 k, bz (ay.f k a0 a1 a2 a3) (ay.f (k + 1) a0 a1 a2 a3) := by
 intro a0 a1 a2 a3 k
 obtain ⟨kF, ih1⟩ := ay.dV k
 unfold ay.f
 repeat' first
   | (with_reducible first | exact kF _ _ _ _ _ _ _ | exact ih1 _ _ _ _ _ _ _ | exact aT.mono _ _ | exact gU.mono _ _ | exact bz.refl _ | exact bz.none _ | refine bz.ite ?_ ?_ | refine bz.bind ?_ (fun _ => ?_))
def bU.f (k : Nat) (iY : Int) (iq : Int) (jK : Int) (jE : List ByteArray) : Option (ByteArray) := (ay.f k iY iq jK jE).bind fun t525 => (if t525 = true then ((iP.f iY).bind fun Qj => (if Qj.size + 1 ≤ 9223372036854775807 then ((iP.f iq).bind fun V5 => (if (Qj ++ (⟨#[46]⟩ : ByteArray)).size + V5.size ≤ 9223372036854775807 then (if ((Qj ++ (⟨#[46]⟩ : ByteArray)) ++ V5).size + 1 ≤ 9223372036854775807 then ((iP.f jK).bind fun t528 => (if (((Qj ++ (⟨#[46]⟩ : ByteArray)) ++ V5) ++ (⟨#[46]⟩ : ByteArray)).size + t528.size ≤ 9223372036854775807 then (if (jE.length : Int) > 0 then ((strings_Join.f jE (⟨#[46]⟩ : ByteArray)).bind fun t529 => (if 1 + t529.size ≤ 9223372036854775807 then (if ((((Qj ++ (⟨#[46]⟩ : ByteArray)) ++ V5) ++ (⟨#[46]⟩ : ByteArray)) ++ t528).size + ((⟨#[45]⟩ : ByteArray) ++ t529).size ≤ 9223372036854775807 then (some (((((Qj ++ (⟨#[46]⟩ : ByteArray)) ++ V5) ++ (⟨#[46]⟩ : ByteArray)) ++ t528) ++ ((⟨#[45]⟩ : ByteArray) ++ t529))) else (none)) else (none))) else (some ((((Qj ++ (⟨#[46]⟩ : ByteArray)) ++ V5) ++ (⟨#[46]⟩ : ByteArray)) ++ t528))) else (none))) else (none)) else (none))) else (none))) else (some (⟨#[]⟩ : ByteArray)))
theorem bU.mono : ∀ a0 a1 a2 a3 k, bz (bU.f k a0 a1 a2 a3) (bU.f (k + 1) a0 a1 a2 a3) := by
 intro a0 a1 a2 a3 k
 unfold bU.f
 repeat' first
   | (with_reducible first | exact ay.mono _ _ _ _ _ | exact bz.refl _ | exact bz.none _ | refine bz.ite ?_ ?_ | refine bz.bind ?_ (fun _ => ?_))
def fC.f (k : Nat) (a0 : ByteArray) : Option (Int × Int × Int × List ByteArray × Bool) := (strings_Cut.f a0 (⟨#[45]⟩ : ByteArray)).bind fun Xe => ((strings_Split.f Xe.1 (⟨#[46]⟩ : ByteArray)).bind fun Qk => (if (Qk.length : Int) = 3 then (if 0 < (Qk.length : Int) then ((dm.f (iE ByteArray.empty Qk 0)).bind fun t538 => (if 1 < (Qk.length : Int) then ((dm.f (iE ByteArray.empty Qk 1)).bind fun t540 => (if 2 < (Qk.length : Int) then ((dm.f (iE ByteArray.empty Qk 2)).bind fun t542 => (if Xe.2.2 = true then ((strings_Split.f Xe.2.1 (⟨#[46]⟩ : ByteArray)).bind fun t544 => ((bU.f k t538 t540 t542 t544).bind fun t547 => (if t547.toList = a0.toList then (if a0.toList = ([] : List UInt8) then (some (0, 0, 0, ([] : List ByteArray), false)) else (some (t538, t540, t542, t544, true))) else (some (0, 0, 0, ([] : List ByteArray), false))))) else ((bU.f k t538 t540 t542 ([] : List ByteArray)).bind fun t548 => (if t548.toList = a0.toList then (if a0.toList = ([] : List UInt8) then (some (0, 0, 0, ([] : List ByteArray), false)) else (some (t538, t540, t542, ([] : List ByteArray), true))) else (some (0, 0, 0, ([] : List ByteArray), false)))))) else (none))) else (none))) else (none)) else (some (0, 0, 0, ([] : List ByteArray), false))))
def fF.f (k : Nat) (a0 : ByteArray) : Option (Bool) := (fC.f k a0).bind fun bt549 => (some bt549.2.2.2.2)
def fB.l0 : Nat → List (iR) → List (iR) → Int → Int → Option (Bool)
 | 0, _, _, _, _ => none
 | k + 1, x0, x5, x6, x7 => if x7 < x6 then (if 0 ≤ x7 then (if x7 < (x5.length : Int) then (if ((dS x5 x7).f0).toList = ([] : List UInt8) then (if ((dS x5 x7).f1).toList = ([] : List UInt8) then (fB.l0 k x0 x5 x6 (wrap64 (x7 + 1))) else ((fF.f k ((dS x5 x7).f1)).bind fun t560 => (if t560 = true then (fB.l0 k x0 x5 x6 (wrap64 (x7 + 1))) else (some false)))) else ((fF.f k ((dS x5 x7).f0)).bind fun t561 => (if t561 = true then (if ((dS x5 x7).f1).toList = ([] : List UInt8) then (fB.l0 k x0 x5 x6 (wrap64 (x7 + 1))) else ((fF.f k ((dS x5 x7).f1)).bind fun t562 => (if t562 = true then (fB.l0 k x0 x5 x6 (wrap64 (x7 + 1))) else (some false)))) else (some false)))) else (none)) else (none)) else ((iJ.f (x0.length : Int) 1 8).bind fun t557 => (some t557))
def fB.f (k : Nat) (l0 : List (iR)) : Option (Bool) := fB.l0 k l0 l0 (l0.length : Int) 0
mutual
def dK.l0 : Nat → List ByteArray → List (iR) → Int → Int → Option (ByteArray)
 | 0, _, _, _, _ => none
 | k + 1, x3, x11, x12, Fe => if Fe < x12 then (if 0 ≤ Fe then (if Fe < (x11.length : Int) then ((some (([] : List ByteArray) : List ByteArray)).bind fun y570 => (if ((dS x11 Fe).f0).toList = ([] : List UInt8) then (dK.j1 k x3 y570 x11 x12 Fe ((dS x11 Fe).f0) ((dS x11 Fe).f1)) else (if 2 + ((dS x11 Fe).f0).size ≤ 9223372036854775807 then (if y570.length < 8796093022208 then (dK.j1 k x3 (y570 ++ [(⟨#[62, 61]⟩ : ByteArray) ++ ((dS x11 Fe).f0)]) x11 x12 Fe ((dS x11 Fe).f0) ((dS x11 Fe).f1)) else (none)) else (none)))) else (none)) else (none)) else ((strings_Join.f x3 (⟨#[32, 124, 124, 32]⟩ : ByteArray)).bind fun t567 => (some t567))
def dK.j1 : Nat → List ByteArray → List ByteArray → List (iR) → Int → Int → ByteArray → ByteArray → Option (ByteArray)
 | 0, _, _, _, _, _, _, _ => none
 | k + 1, x3, x6, x11, x12, Fe, x570000, MC => if MC.toList = ([] : List UInt8) then (if (x6.length : Int) = 0 then ((strings_Join.f (([(⟨#[42]⟩ : ByteArray)] : List ByteArray)) (⟨#[32]⟩ : ByteArray)).bind fun t579 => (if x3.length < 8796093022208 then (dK.l0 k (x3 ++ [t579]) x11 x12 (wrap64 (Fe + 1))) else (none))) else ((strings_Join.f x6 (⟨#[32]⟩ : ByteArray)).bind fun t583 => (if x3.length < 8796093022208 then (dK.l0 k (x3 ++ [t583]) x11 x12 (wrap64 (Fe + 1))) else (none)))) else (if 1 + MC.size ≤ 9223372036854775807 then (if x6.length < 8796093022208 then ((some (x6 ++ [(⟨#[60]⟩ : ByteArray) ++ MC] : List ByteArray)).bind fun y587 => (if (y587.length : Int) = 0 then ((strings_Join.f (([(⟨#[42]⟩ : ByteArray)] : List ByteArray)) (⟨#[32]⟩ : ByteArray)).bind fun t593 => (if x3.length < 8796093022208 then (dK.l0 k (x3 ++ [t593]) x11 x12 (wrap64 (Fe + 1))) else (none))) else ((strings_Join.f y587 (⟨#[32]⟩ : ByteArray)).bind fun t597 => (if x3.length < 8796093022208 then (dK.l0 k (x3 ++ [t597]) x11 x12 (wrap64 (Fe + 1))) else (none))))) else (none)) else (none))
end
def dK.f (k : Nat) (l0 : List (iR)) : Option (ByteArray) := (fB.f k l0).bind fun t563 => (if t563 = true then (dK.l0 k (([] : List ByteArray)) l0 (l0.length : Int) 0) else (some (⟨#[]⟩ : ByteArray)))
def dn.f (ax : List Int) (gX : Int) (gu : Int) (a1 : ByteArray) : Option (ByteArray × Int × Int) := (az.f ax gX gu (wrap64 ((a1.size : Int) + 1))).bind fun jP => ((az.f ax jP.2.1 jP.2.2 8).bind fun mX => (if mX.1 = 0 then (if 0 ≤ jP.1 then (if jP.1 ≤ (a1.size : Int) then (some (a1.extract 0 (jP.1 : Int).toNat, mX.2.1, mX.2.2)) else (none)) else (none)) else (if mX.1 = 1 then (if 0 ≤ jP.1 then (if jP.1 ≤ (a1.size : Int) then ((cO.f ax mX.2.1 mX.2.2 (([(⟨#[48]⟩ : ByteArray), (⟨#[32]⟩ : ByteArray), (⟨#[255]⟩ : ByteArray), (⟨#[34]⟩ : ByteArray), (⟨#[10]⟩ : ByteArray), (⟨#[97]⟩ : ByteArray), (⟨#[44]⟩ : ByteArray), (⟨#[61]⟩ : ByteArray)] : List ByteArray))).bind fun sW => (if (a1.extract 0 (jP.1 : Int).toNat).size + sW.1.size ≤ 9223372036854775807 then (if ((a1.extract 0 (jP.1 : Int).toNat) ++ sW.1).size + (a1.extract (jP.1 : Int).toNat a1.size).size ≤ 9223372036854775807 then (some (((a1.extract 0 (jP.1 : Int).toNat) ++ sW.1) ++ (a1.extract (jP.1 : Int).toNat a1.size), sW.2.1, sW.2.2)) else (none)) else (none))) else (none)) else (none)) else (if mX.1 = 2 then (if jP.1 < (a1.size : Int) then (if 0 ≤ jP.1 then (if jP.1 ≤ (a1.size : Int) then ((cO.f ax mX.2.1 mX.2.2 (([(⟨#[48]⟩ : ByteArray), (⟨#[65]⟩ : ByteArray), (⟨#[0]⟩ : ByteArray), (⟨#[57]⟩ : ByteArray), (⟨#[93]⟩ : ByteArray), (⟨#[92]⟩ : ByteArray)] : List ByteArray))).bind fun sZ => (if (a1.extract 0 (jP.1 : Int).toNat).size + sZ.1.size ≤ 9223372036854775807 then (if 0 ≤ (wrap64 (jP.1 + 1)) then (if (wrap64 (jP.1 + 1)) ≤ (a1.size : Int) then (if ((a1.extract 0 (jP.1 : Int).toNat) ++ sZ.1).size + (a1.extract ((wrap64 (jP.1 + 1)) : Int).toNat a1.size).size ≤ 9223372036854775807 then (some (((a1.extract 0 (jP.1 : Int).toNat) ++ sZ.1) ++ (a1.extract ((wrap64 (jP.1 + 1)) : Int).toNat a1.size), sZ.2.1, sZ.2.2)) else (none)) else (none)) else (none)) else (none))) else (none)) else (none)) else (some (a1, mX.2.1, mX.2.2))) else (some (a1, mX.2.1, mX.2.2))))))
def dD.f (k : Nat) (l0 : List Int) : Option (ByteArray) := (bu.f k l0).bind fun D6 => ((aN.f k D6.1 D6.2.1 D6.2.2).bind fun IX => ((dn.f D6.1 IX.2.1 IX.2.2 IX.1).bind fun Xf => (some Xf.1)))
theorem dD.mono : ∀ a0 k, bz (dD.f k a0) (dD.f (k + 1) a0) := by
 intro a0 k
 unfold dD.f
 repeat' first
   | (with_reducible first | exact bu.mono _ _ | exact aN.mono _ _ _ _ | exact bz.refl _ | exact bz.none _ | refine bz.ite ?_ ?_ | refine bz.bind ?_ (fun _ => ?_))
def dM.f (k : Nat) (a0 : Int) (a1 : Int) (a2 : Int) : Option (ByteArray) := (bU.f k a0 a1 a2 (([(⟨#[48]⟩ : ByteArray)] : List ByteArray))).bind fun t632 => (some t632)
theorem dM.mono : ∀ a0 a1 a2 k, bz (dM.f k a0 a1 a2) (dM.f (k + 1) a0 a1 a2) := by
 intro a0 a1 a2 k
 unfold dM.f
 repeat' first
   | (with_reducible first | exact bU.mono _ _ _ _ _ | exact bz.refl _ | exact bz.none _ | refine bz.ite ?_ ?_ | refine bz.bind ?_ (fun _ => ?_))
def bT.f (l0 : List ByteArray) : Option (List ByteArray) := if l0.length * 16 ≤ 140737488355328 then some l0 else none
theorem bT.calls (A0 : Option Addr) (c0 : Nat) (l0 : List ByteArray) (r : List ByteArray) (w : World) (hr0 : Kd.C Kd.string w A0 l0.length l0) (hc0 : l0.length ≤ c0) (h : bT.f l0 = some r) :
  Calls Tryz.prog 75 #[.slice A0 l0.length c0] w fun e w' => ∃ KC : Value, e = .returned (KC) ∧ Kd.R Kd.string 9 w' w.heap.size (fun _ => True) KC r ∧ Below w.heap.size w w' := by
 unfold bT.f at h
 by_cases hc : l0.length * 16 ≤ 140737488355328
 ·rw [if_pos hc] at h
  obtain rfl := Option.some.inj h
  cases l0 with
  | nil =>
   cases A0 with
   | none => exact (Tryz.slices_Clone_string_nil 0 c0 w).mono fun e w' ⟨h1, h2⟩ => ⟨_, h1, h2 ▸ Kd.R_nil _ _ _ _ _, h2 ▸ Below.refl _ _⟩
   | some a => exact (Tryz.slices_Clone_string_zero a c0 w).mono fun e w' ⟨v, h1, h2, _, h3⟩ => ⟨v, h1, Kd.DZ h2 (fun _ _ => trivial), h3⟩
  | cons x l =>
   obtain ⟨ad, rfl, hcell⟩ := hr0.2.2 (by simp)
   have cell : ∀ (j : Nat) y, (x :: l)[j]? = some y → w.cell? (ad.add (j * 1 + 0)) = some (.string y) := by
    intro j y hy
    obtain ⟨cs, _, hk, hi⟩ := hcell j y hy
    have hk' : cs = [.string y] := hk
    subst hk'
    exact hi 0 _ rfl
   obtain ⟨b, o, sp⟩ := ad
   have hsp : sp = none := Go.Proofs.cell_spot (cell 0 x rfl)
   subst hsp
   have e : ∀ j, (⟨b, o, none⟩ : Addr).add (j * 1 + 0) = ⟨b, o + j, none⟩ := fun j => by unfold Addr.add; simp
   refine (Tryz.slices_Clone_string b o (x :: l).length c0 (x :: l) w (Nat.le_refl _) hc (fun j hj => by rw [← e j]; refine cell j _ ?_; rw [List.getD_eq_getElem?_getD, List.getElem?_eq_getElem hj]; rfl)).mono fun e w' ⟨v, h1, h2, _, h3⟩ => ⟨v, h1, Kd.DZ ?_ (fun _ _ => trivial), h3⟩
   rw [List.take_length] at h2; exact h2
 ·rw [if_neg hc] at h; cases h
def nM.f (k : Nat) (iY : Int) (iq : Int) (jK : Int) (jE : List ByteArray) : Option (ByteArray × ByteArray) := (dM.f k iY iq (wrap64 (jK + 1))).bind fun t635 => (if (jE.length : Int) > 0 then ((bT.f jE).bind fun t637 => (if t637.length < 8796093022208 then ((bU.f k iY iq jK (t637 ++ [(⟨#[48]⟩ : ByteArray)])).bind fun t643 => ((bU.f k iY iq jK jE).bind fun t644 => (some (t644, t643)))) else (none))) else ((bU.f k iY iq jK jE).bind fun t645 => (some (t645, t635))))
def stringslite_HasPrefix.f (a0 : ByteArray) (a1 : ByteArray) : Option (Bool) := if (a0.size : Int) ≥ (a1.size : Int) then (if 0 ≤ (a1.size : Int) then (if (a1.size : Int) ≤ (a0.size : Int) then (some ((a0.extract 0 ((a1.size : Int) : Int).toNat).toList == a1.toList)) else (none)) else (none)) else (some false)
def stringslite_CutPrefix.f (a0 : ByteArray) (a1 : ByteArray) : Option (ByteArray × Bool) := (stringslite_HasPrefix.f a0 a1).bind fun t646 => (if t646 = true then (if 0 ≤ (a1.size : Int) then (if (a1.size : Int) ≤ (a0.size : Int) then (some (a0.extract ((a1.size : Int) : Int).toNat a0.size, true)) else (none)) else (none)) else (some (a0, false)))
def strings_CutPrefix.f (a0 : ByteArray) (a1 : ByteArray) : Option (ByteArray × Bool) := (stringslite_CutPrefix.f a0 a1).bind fun bt647 => (some (bt647.1, bt647.2))
def af.l0 : Nat → List ByteArray → List Int → List ByteArray → Int → Int → Option (ByteArray × ByteArray × Bool)
 | 0, _, _, _, _, _ => none
 | k + 1, x4, x5, x16, x17, x18 => if x18 < x17 then (if 0 ≤ x18 then (if x18 < (x16.length : Int) then ((dm.f (iE ByteArray.empty x16 x18)).bind fun MF => (if x18 < (x5.length : Int) then ((some (x5.set (x18 : Int).toNat MF : List Int)).bind fun Ei => (if (rd Ei x18) < 0 then (some ((⟨#[]⟩ : ByteArray), (⟨#[]⟩ : ByteArray), false)) else (af.l0 k x4 Ei x16 x17 (wrap64 (x18 + 1))))) else (none))) else (none)) else (none)) else (if 0 < (x5.length : Int) then (if 1 < (x5.length : Int) then ((bU.f k (rd x5 0) (rd x5 1) 0 ([] : List ByteArray)).bind fun wX => ((dM.f k (rd x5 0) (wrap64 ((rd x5 1) + 1)) 0).bind fun yC => (if (x4.length : Int) = 1 then ((dM.f k (wrap64 ((rd x5 0) + 1)) 0 0).bind fun t668 => (some (wX, t668, true))) else (some (wX, yC, true))))) else (none)) else (none))
def af.f (k : Nat) (a0 : ByteArray) : Option (ByteArray × ByteArray × Bool) := (strings_Split.f a0 (⟨#[46]⟩ : ByteArray)).bind fun jd => (if (jd.length : Int) > 2 then (some ((⟨#[]⟩ : ByteArray), (⟨#[]⟩ : ByteArray), false)) else (af.l0 k jd (([0, 0] : List Int)) jd (jd.length : Int) 0))
theorem af.dV : ∀ k, (∀ y0 y1 y2 y3 y4, bz (af.l0 k y0 y1 y2 y3 y4) (af.l0 (k + 1) y0 y1 y2 y3 y4))
 | 0 => fun _ _ _ _ _ r h => by simp [af.l0] at h
 | k + 1 => by
  have kF := af.dV k
  ·intro y0 y1 y2 y3 y4
   unfold af.l0
   repeat' first
   | (with_reducible first | exact kF _ _ _ _ _ | exact bU.mono _ _ _ _ _ | exact dM.mono _ _ _ _ | exact bz.refl _ | exact bz.none _ | refine bz.ite ?_ ?_ | refine bz.bind ?_ (fun _ => ?_))
theorem af.mono : ∀ a0 k, bz (af.f k a0) (af.f (k + 1) a0) := by
 intro a0 k
 have kF := af.dV k
 unfold af.f
 repeat' first
   | (with_reducible first | exact kF _ _ _ _ _ | exact bU.mono _ _ _ _ _ | exact dM.mono _ _ _ _ | exact bz.refl _ | exact bz.none _ | refine bz.ite ?_ ?_ | refine bz.bind ?_ (fun _ => ?_))
def bV.j0 : Nat → ByteArray → Bool → Option (ByteArray × ByteArray × Bool)
 | 0, _, _ => none
 | k + 1, x0, x73 => if x73 = true then (if 1 ≤ (x0.size : Int) then ((fC.f k (x0.extract 1 x0.size)).bind fun BO => ((dM.f k BO.1 (wrap64 (BO.2.1 + 1)) 0).bind fun t698 => (if 0 < (x0.size : Int) then (if (bt x0 0) = 94 then (if BO.1 > 0 then ((dM.f k (wrap64 (BO.1 + 1)) 0 0).bind fun t699 => (some (x0.extract 1 x0.size, t699, BO.2.2.2.2))) else (if BO.2.1 = 0 then ((dM.f k 0 0 (wrap64 (BO.2.2.1 + 1))).bind fun t700 => (some (x0.extract 1 x0.size, t700, BO.2.2.2.2))) else (some (x0.extract 1 x0.size, t698, BO.2.2.2.2)))) else (some (x0.extract 1 x0.size, t698, BO.2.2.2.2))) else (none)))) else (none)) else ((af.f k x0).bind fun Xg => (some (Xg.1, Xg.2.1, Xg.2.2)))
def bV.f (k : Nat) (a0 : ByteArray) : Option (ByteArray × ByteArray × Bool) := if a0.toList = ([42] : List UInt8) then (some ((⟨#[]⟩ : ByteArray), (⟨#[]⟩ : ByteArray), true)) else ((fC.f k a0).bind fun OH => (if OH.2.2.2.2 = true then ((nM.f k OH.1 OH.2.1 OH.2.2.1 OH.2.2.2.1).bind fun bt678 => (some (bt678.1, bt678.2, true))) else ((strings_CutPrefix.f a0 (⟨#[62, 61]⟩ : ByteArray)).bind fun bt680 => (if bt680.2 = true then ((strings_Cut.f bt680.1 (⟨#[32, 60]⟩ : ByteArray)).bind fun qx => ((fF.f k qx.1).bind fun Xh => (if Xh = true then (if qx.2.2 = true then ((fF.f k qx.2.1).bind fun Xi => (some (qx.1, qx.2.1, Xi))) else (some (qx.1, qx.2.1, true))) else (some (qx.1, qx.2.1, false))))) else ((strings_CutPrefix.f a0 (⟨#[60]⟩ : ByteArray)).bind fun Xj => (if Xj.2 = true then ((fF.f k Xj.1).bind fun t689 => (some ((⟨#[]⟩ : ByteArray), Xj.1, t689))) else (if a0.toList = ([] : List UInt8) then (bV.j0 k a0 false) else (if 0 < (a0.size : Int) then (if (bt a0 0) = 94 then (bV.j0 k a0 true) else (bV.j0 k a0 ((bt a0 0) == 126))) else (none)))))))))
def strings_HasPrefix.f (a0 : ByteArray) (a1 : ByteArray) : Option Bool := some (Lib.hasPrefix a0.data.toList a1.data.toList)
theorem strings_HasPrefix.calls (a0 : ByteArray) (a1 : ByteArray) (r : Bool) (w : World) (h : strings_HasPrefix.f a0 a1 = some r) :
  Calls Tryz.prog 49 #[.string a0, .string a1] w fun e w' => e = .returned (.bool r) ∧ kG w w' := by
 obtain rfl := Option.some.inj h
 exact (Tryz.strings_HasPrefix a0 a1 w).mono fun e w' ⟨h1, h2⟩ => ⟨h1, h2 ▸ kG.refl _⟩
def dO.l0 : Nat → List (iR) → List ByteArray → Int → Int → Option ((List (iR)) × Bool)
 | 0, _, _, _, _ => none
 | k + 1, x4, x15, x16, x17 => if x17 < x16 then (if 0 ≤ x17 then (if x17 < (x15.length : Int) then ((bV.f k (iE ByteArray.empty x15 x17)).bind fun xC => (if (iE ByteArray.empty x15 x17).toList = ([42] : List UInt8) then (if xC.2.2 = true then (if x4.length < 4398046511104 then (dO.l0 k (x4 ++ [(⟨xC.1, xC.2.1⟩ : iR)]) x15 x16 (wrap64 (x17 + 1))) else (none)) else (some (([] : List (iR)), false))) else ((strings_HasPrefix.f (iE ByteArray.empty x15 x17) (⟨#[60]⟩ : ByteArray)).bind fun t719 => (if t719 = true then (if xC.2.2 = true then (if x4.length < 4398046511104 then (dO.l0 k (x4 ++ [(⟨xC.1, xC.2.1⟩ : iR)]) x15 x16 (wrap64 (x17 + 1))) else (none)) else (some (([] : List (iR)), false))) else ((strings_HasPrefix.f (iE ByteArray.empty x15 x17) (⟨#[62, 61]⟩ : ByteArray)).bind fun t723 => (if xC.2.2 = true then (if t723 = true then (if x4.length < 4398046511104 then (dO.l0 k (x4 ++ [(⟨xC.1, xC.2.1⟩ : iR)]) x15 x16 (wrap64 (x17 + 1))) else (none)) else (if xC.1.toList = ([] : List UInt8) then (some (([] : List (iR)), false)) else (if xC.2.1.toList = ([] : List UInt8) then (some (([] : List (iR)), false)) else (if x4.length < 4398046511104 then (dO.l0 k (x4 ++ [(⟨xC.1, xC.2.1⟩ : iR)]) x15 x16 (wrap64 (x17 + 1))) else (none))))) else (some (([] : List (iR)), false)))))))) else (none)) else (none)) else ((fB.f k x4).bind fun t710 => (if t710 = true then (some (x4, true)) else (some (([] : List (iR)), false))))
def dO.f (k : Nat) (a0 : ByteArray) : Option ((List (iR)) × Bool) := if (a0.size : Int) > 200 then (some (([] : List (iR)), false)) else ((strings_Split.f a0 (⟨#[32, 124, 124, 32]⟩ : ByteArray)).bind fun Xk => (dO.l0 k (([] : List (iR))) Xk (Xk.length : Int) 0))
def eF.f (k : Nat) (l0 : List Int) : Option (ByteArray) := (bu.f k l0).bind fun D7 => ((bY.f k D7.1 D7.2.1 D7.2.2).bind fun IY => ((dn.f D7.1 IY.2.1 IY.2.2 IY.1).bind fun Xl => (some Xl.1)))
theorem eF.mono : ∀ a0 k, bz (eF.f k a0) (eF.f (k + 1) a0) := by
 intro a0 k
 unfold eF.f
 repeat' first
   | (with_reducible first | exact bu.mono _ _ | exact bY.mono _ _ _ _ | exact bz.refl _ | exact bz.none _ | refine bz.ite ?_ ?_ | refine bz.bind ?_ (fun _ => ?_))
def qO.f (k : Nat) (a0 : ByteArray) : Option ((List (iR))) := (fC.f k a0).bind fun OI => ((nM.f k OI.1 OI.2.1 OI.2.2.1 OI.2.2.2.1).bind fun Xm => (if OI.2.2.2.2 = true then (if Xm.2.toList = ([] : List UInt8) then (some ([] : List (iR))) else (some (([(⟨Xm.1, Xm.2⟩ : iR)] : List (iR))))) else (some ([] : List (iR)))))
mutual
def bF.l0 : Nat → List (iR) → ByteArray → Int → Option (ByteArray)
 | 0, _, _, _ => none
 | k + 1, x0, x3, x4 => if x4 < (x0.length : Int) then ((bZ.f k x0).bind fun t754 => (if t754 = true then (if x4 > 0 then (if x3.size + 4 ≤ 9223372036854775807 then (bF.j1 k x0 (x3 ++ (⟨#[32, 124, 124, 32]⟩ : ByteArray)) x4) else (none)) else (bF.j1 k x0 x3 x4)) else (some (⟨#[]⟩ : ByteArray)))) else (some x3)
def bF.j1 : Nat → List (iR) → ByteArray → Int → Option (ByteArray)
 | 0, _, _, _ => none
 | k + 1, x0, x3, x4 => if 0 ≤ x4 then (if x4 < (x0.length : Int) then (if ((dS x0 x4).f0).toList = ([] : List UInt8) then (bF.j2 k x0 x3 x4 (((dS x0 x4).f1).toList == ([] : List UInt8))) else (bF.j2 k x0 x3 x4 false)) else (none)) else (none)
def bF.j2 : Nat → List (iR) → ByteArray → Int → Bool → Option (ByteArray)
 | 0, _, _, _, _ => none
 | k + 1, x0, x3, x4, x33 => if x33 = true then (if x3.size + 1 ≤ 9223372036854775807 then (bF.l0 k x0 (x3 ++ (⟨#[42]⟩ : ByteArray)) (wrap64 (x4 + 1))) else (none)) else (if 0 ≤ x4 then (if x4 < (x0.length : Int) then (if ((dS x0 x4).f1).toList = ([] : List UInt8) then (if x3.size + 2 ≤ 9223372036854775807 then (if (x3 ++ (⟨#[62, 61]⟩ : ByteArray)).size + ((dS x0 x4).f0).size ≤ 9223372036854775807 then (bF.l0 k x0 ((x3 ++ (⟨#[62, 61]⟩ : ByteArray)) ++ ((dS x0 x4).f0)) (wrap64 (x4 + 1))) else (none)) else (none)) else (if ((dS x0 x4).f0).toList = ([] : List UInt8) then (if x3.size + 1 ≤ 9223372036854775807 then (if (x3 ++ (⟨#[60]⟩ : ByteArray)).size + ((dS x0 x4).f1).size ≤ 9223372036854775807 then (bF.l0 k x0 ((x3 ++ (⟨#[60]⟩ : ByteArray)) ++ ((dS x0 x4).f1)) (wrap64 (x4 + 1))) else (none)) else (none)) else (if x3.size + 2 ≤ 9223372036854775807 then (if (x3 ++ (⟨#[62, 61]⟩ : ByteArray)).size + ((dS x0 x4).f0).size ≤ 9223372036854775807 then (if ((x3 ++ (⟨#[62, 61]⟩ : ByteArray)) ++ ((dS x0 x4).f0)).size + 2 ≤ 9223372036854775807 then (if (((x3 ++ (⟨#[62, 61]⟩ : ByteArray)) ++ ((dS x0 x4).f0)) ++ (⟨#[32, 60]⟩ : ByteArray)).size + ((dS x0 x4).f1).size ≤ 9223372036854775807 then (bF.l0 k x0 ((((x3 ++ (⟨#[62, 61]⟩ : ByteArray)) ++ ((dS x0 x4).f0)) ++ (⟨#[32, 60]⟩ : ByteArray)) ++ ((dS x0 x4).f1)) (wrap64 (x4 + 1))) else (none)) else (none)) else (none)) else (none)))) else (none)) else (none))
end
def bF.f (k : Nat) (l0 : List (iR)) : Option (ByteArray) := bF.l0 k l0 (⟨#[]⟩ : ByteArray) 0
def qP.f (k : Nat) (a0 : ByteArray) : Option ((List (iR))) := (fE.f k a0).bind fun Xn => (if Xn.2.2 = true then (some (([(⟨Xn.1, Xn.2.1⟩ : iR)] : List (iR)))) else (some (([] : List (iR)))))
def fZ.f (k : Nat) (l0 : List Int) : Option (ByteArray × (List (iR))) := (bu.f k l0).bind fun D8 => ((bY.f k D8.1 D8.2.1 D8.2.2).bind fun IZ => ((bg.f k D8.1 IZ.2.1 IZ.2.2).bind fun Xo => (some (IZ.1, Xo.1))))
theorem fZ.mono : ∀ a0 k, bz (fZ.f k a0) (fZ.f (k + 1) a0) := by
 intro a0 k
 unfold fZ.f
 repeat' first
   | (with_reducible first | exact bu.mono _ _ | exact bY.mono _ _ _ _ | exact bg.mono _ _ _ _ | exact bz.refl _ | exact bz.none _ | refine bz.ite ?_ ?_ | refine bz.bind ?_ (fun _ => ?_))
def gm.f (a0 : Int) (a1 : Int) : Option (Int) := if a0 < a1 then (some (-1)) else (if a0 > a1 then (some 1) else (some 0))
def eQ.f (a0 : ByteArray) (a1 : ByteArray) : Option ByteArray := if h : a1.size = 1 then (if (a1[0]'(by omega)).toNat < 128 ∧ a0.size ≤ 9223372036854775807 then some ⟨(Lib.trimLeftB a0.data.toList (a1[0]'(by omega))).toArray⟩ else none) else none
theorem eQ.calls (a0 : ByteArray) (a1 : ByteArray) (r : ByteArray) (w : World) (h : eQ.f a0 a1 = some r) :
  Calls Tryz.prog 182 #[.string a0, .string a1] w fun e w' => e = .returned (.string r) ∧ kG w w' := by
 unfold eQ.f at h
 split at h
 ·rename_i h1
  split at h
  ·rename_i h2
   obtain rfl := Option.some.inj h
   obtain ⟨c, rfl⟩ := Lib.one_byte a1 h1
   exact (Tryz.strings_TrimLeft_one a0 c h2.1 w).mono fun e w' ⟨h1, h2⟩ => ⟨h1, h2 ▸ kG.refl _⟩
  ·cases h
 ·cases h
def strings_Compare.f (a0 : ByteArray) (a1 : ByteArray) : Option Int := some (Lib.compareBytes a0.data.toList a1.data.toList)
theorem strings_Compare.calls (a0 : ByteArray) (a1 : ByteArray) (r : Int) (w : World) (h : strings_Compare.f a0 a1 = some r) :
  Calls Tryz.prog 183 #[.string a0, .string a1] w fun e w' => e = .returned (.int .i64 r) ∧ kG w w' := by
 obtain rfl := Option.some.inj h
 exact (Tryz.strings_Compare a0 a1 w).mono fun e w' ⟨h1, h2⟩ => ⟨h1, h2 ▸ kG.refl _⟩
def fO.j0 : Nat → ByteArray → ByteArray → Bool → Bool → Bool → Option (Int)
 | 0, _, _, _, _, _ => none
 | k + 1, x0, x1, x5, x6, x12 => if x12 = true then ((eQ.f x0 (⟨#[48]⟩ : ByteArray)).bind fun t789 => ((eQ.f x1 (⟨#[48]⟩ : ByteArray)).bind fun t790 => ((gm.f (t789.size : Int) (t790.size : Int)).bind fun t791 => (if t791 = 0 then ((strings_Compare.f t789 t790).bind fun t792 => (some t792)) else (some t791))))) else (if x5 = true then (some (-1)) else (if x6 = true then (some 1) else ((strings_Compare.f x0 x1).bind fun t793 => (some t793))))
def fO.f (k : Nat) (a0 : ByteArray) (a1 : ByteArray) : Option (Int) := (gU.f k a0).bind fun t787 => ((gU.f k a1).bind fun t788 => (if t787 = true then (fO.j0 k a0 a1 t787 t788 t788) else (fO.j0 k a0 a1 t787 t788 false)))
mutual
def bM.l0 : Nat → List Int → Int → Int → Int → Int → Int → List ByteArray → Int → Int → Int → List ByteArray → Option (Int)
 | 0, _, _, _, _, _, _, _, _, _, _, _ => none
 | k + 1, x24, x25, OB, AV, AX, AY, qJ, AZ, A7, Aa, qK => if OB < x25 then (if 0 ≤ OB then (if OB < (x24.length : Int) then (if (rd x24 OB) = 0 then (bM.l0 k x24 x25 (wrap64 (OB + 1)) AV AX AY qJ AZ A7 Aa qK) else (some (rd x24 OB))) else (none)) else (none)) else (if (((qJ.length : Int) == 0) != ((qK.length : Int) == 0)) = true then ((gm.f (qK.length : Int) (qJ.length : Int)).bind fun t803 => (some t803)) else (bM.l1 k (mn (qJ.length : Int) (qK.length : Int)) 0 AV AX AY qJ AZ A7 Aa qK))
def bM.l1 : Nat → Int → Int → Int → Int → Int → List ByteArray → Int → Int → Int → List ByteArray → Option (Int)
 | 0, _, _, _, _, _, _, _, _, _, _ => none
 | k + 1, x56, x57, AV, AX, AY, qJ, AZ, A7, Aa, qK => if x57 < x56 then (if 0 ≤ x57 then (if x57 < (qJ.length : Int) then (if x57 < (qK.length : Int) then ((fO.f k (iE ByteArray.empty qJ x57) (iE ByteArray.empty qK x57)).bind fun t806 => (if t806 = 0 then (bM.l1 k x56 (wrap64 (x57 + 1)) AV AX AY qJ AZ A7 Aa qK) else (some t806))) else (none)) else (none)) else (none)) else ((gm.f (qJ.length : Int) (qK.length : Int)).bind fun t807 => (some t807))
end
def bM.f (k : Nat) (iY : Int) (iq : Int) (jK : Int) (jE : List ByteArray) (tV : Int) (tX : Int) (tY : Int) (tZ : List ByteArray) : Option (Int) := (gm.f iY tV).bind fun t796 => ((gm.f iq tX).bind fun t797 => ((gm.f jK tY).bind fun t798 => ((some (([t796, t797, t798] : List Int) : List Int)).bind fun y799 => (bM.l0 k y799 (y799.length : Int) 0 iY iq jK jE tV tX tY tZ))))
def gK.f (k : Nat) (a0 : ByteArray) (a1 : ByteArray) : Option (Int) := (fC.f k a0).bind fun Tq => ((fC.f k a1).bind fun Tt => ((bM.f k Tq.1 Tq.2.1 Tq.2.2.1 Tq.2.2.2.1 Tt.1 Tt.2.1 Tt.2.2.1 Tt.2.2.2.1).bind fun t824 => (some t824)))
mutual
def fG.j0 : Nat → ByteArray → List (iR) → Bool → Int → Int → Int → List ByteArray → Option (Bool)
 | 0, _, _, _, _, _, _, _ => none
 | k + 1, x0, x1, x22, nN, nO, nP, nR => if x22 = true then (some false) else (fG.l0 k x0 x1 (x1.length : Int) 0 nN nO nP nR)
def fG.l0 : Nat → ByteArray → List (iR) → Int → Int → Int → Int → Int → List ByteArray → Option (Bool)
 | 0, _, _, _, _, _, _, _, _ => none
 | k + 1, x0, Bj, x24, x25, nN, nO, nP, nR => if x25 < x24 then (if 0 ≤ x25 then (if x25 < (Bj.length : Int) then (if ((dS Bj x25).f0).toList = ([] : List UInt8) then (if ((dS Bj x25).f1).toList = ([] : List UInt8) then (fG.j2 k x0 Bj x24 x25 false nN nO nP nR ((dS Bj x25).f0) ((dS Bj x25).f1)) else ((gK.f k x0 ((dS Bj x25).f1)).bind fun t836 => (fG.j2 k x0 Bj x24 x25 (decide (t836 ≥ 0)) nN nO nP nR ((dS Bj x25).f0) ((dS Bj x25).f1)))) else ((gK.f k x0 ((dS Bj x25).f0)).bind fun t837 => (if t837 < 0 then (fG.j2 k x0 Bj x24 x25 true nN nO nP nR ((dS Bj x25).f0) ((dS Bj x25).f1)) else (if ((dS Bj x25).f1).toList = ([] : List UInt8) then (fG.j2 k x0 Bj x24 x25 false nN nO nP nR ((dS Bj x25).f0) ((dS Bj x25).f1)) else ((gK.f k x0 ((dS Bj x25).f1)).bind fun t838 => (fG.j2 k x0 Bj x24 x25 (decide (t838 ≥ 0)) nN nO nP nR ((dS Bj x25).f0) ((dS Bj x25).f1))))))) else (none)) else (none)) else (some false)
def fG.j2 : Nat → ByteArray → List (iR) → Int → Int → Bool → Int → Int → Int → List ByteArray → ByteArray → ByteArray → Option (Bool)
 | 0, _, _, _, _, _, _, _, _, _, _, _ => none
 | k + 1, x0, Bj, x24, x25, x50, nN, nO, nP, nR, x836000, x836001 => if x50 = true then (fG.l0 k x0 Bj x24 (wrap64 (x25 + 1)) nN nO nP nR) else ((fC.f k x836000).bind fun Tv => (if (nR.length : Int) = 0 then (some true) else (if (Tv.2.2.2.1.length : Int) > 0 then (if Tv.1 = nN then (if Tv.2.1 = nO then (if Tv.2.2.1 = nP then (some true) else (fG.l0 k x0 Bj x24 (wrap64 (x25 + 1)) nN nO nP nR)) else (fG.l0 k x0 Bj x24 (wrap64 (x25 + 1)) nN nO nP nR)) else (fG.l0 k x0 Bj x24 (wrap64 (x25 + 1)) nN nO nP nR)) else (fG.l0 k x0 Bj x24 (wrap64 (x25 + 1)) nN nO nP nR))))
end
def fG.f (k : Nat) (a0 : ByteArray) (l1 : List (iR)) : Option (Bool) := (fC.f k a0).bind fun D9 => (if D9.2.2.2.2 = true then ((fB.f k l1).bind fun t833 => (fG.j0 k a0 l1 (!t833) D9.1 D9.2.1 D9.2.2.1 D9.2.2.2.1)) else (fG.j0 k a0 l1 true D9.1 D9.2.1 D9.2.2.1 D9.2.2.2.1))
def lK.f (k : Nat) (iY : ByteArray) (iq : ByteArray) (tV : Int) (tX : Int) (tY : Int) (tZ : List ByteArray) : Option (Bool) := (ae.f k iY).bind fun xE => ((ae.f k iq).bind fun BP => (if xE.2.2.2.2 = true then ((aC.f k tV tX tY tZ xE.1 xE.2.1 xE.2.2.1 xE.2.2.2.1).bind fun t865 => (if t865 < 0 then (some false) else (if BP.2.2.2.2 = true then ((aC.f k tV tX tY tZ BP.1 BP.2.1 BP.2.2.1 BP.2.2.2.1).bind fun t866 => (if t866 ≥ 0 then (some false) else (if (tZ.length : Int) = 0 then (some true) else (if (xE.2.2.2.1.length : Int) > 0 then (if xE.1 = tV then (if xE.2.1 = tX then (some (xE.2.2.1 == tY)) else (some false)) else (some false)) else (some false))))) else (if (tZ.length : Int) = 0 then (some true) else (if (xE.2.2.2.1.length : Int) > 0 then (if xE.1 = tV then (if xE.2.1 = tX then (some (xE.2.2.1 == tY)) else (some false)) else (some false)) else (some false)))))) else (if BP.2.2.2.2 = true then ((aC.f k tV tX tY tZ BP.1 BP.2.1 BP.2.2.1 BP.2.2.2.1).bind fun t867 => (if t867 ≥ 0 then (some false) else (if (tZ.length : Int) = 0 then (some true) else (some false)))) else (if (tZ.length : Int) = 0 then (some true) else (some false)))))
def jo.l0 : Nat → List (iR) → Bool → Int → Int → Int → Int → List ByteArray → Option (Bool)
 | 0, _, _, _, _, _, _, _ => none
 | k + 1, x1, x6, x7, Dc, Df, Dh, Di => if x7 < (x1.length : Int) then (if x6 = true then ((bZ.f k x1).bind fun t876 => (if t876 = true then (if 0 ≤ x7 then ((lK.f k ((dS x1 x7).f0) ((dS x1 x7).f1) Dc Df Dh Di).bind fun t878 => (if t878 = true then (some true) else (jo.l0 k x1 x6 (wrap64 (x7 + 1)) Dc Df Dh Di))) else (none)) else (jo.l0 k x1 x6 (wrap64 (x7 + 1)) Dc Df Dh Di))) else (jo.l0 k x1 x6 (wrap64 (x7 + 1)) Dc Df Dh Di)) else (some false)
def jo.f (k : Nat) (a0 : ByteArray) (l1 : List (iR)) : Option (Bool) := (ae.f k a0).bind fun OJ => (jo.l0 k l1 OJ.2.2.2.2 0 OJ.1 OJ.2.1 OJ.2.2.1 OJ.2.2.2.1)
end Go.Proofs.YtieohddolkeegaaGreatDoor.G

end
