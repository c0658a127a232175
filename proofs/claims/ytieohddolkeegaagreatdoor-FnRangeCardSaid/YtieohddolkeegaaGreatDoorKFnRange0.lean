/- A part of the proof that the law FnRange answers true at every input that its row speaks of. Conditions: the row's own. -/
import Derived.Test.YtieohddolkeegaaGreatDoorProg
import Derived.Test.YtieohddolkeegaaGreatDoorOrd
import Derived.Below
import Derived.Deep.Draws
import Derived.Deep.AppendLies
import Derived.Maps.AppendAt
import Derived.OwnWalk
import Derived.Laws.BytesArg
import Derived.Laws.MakeOwn
import Derived.Laws.OwnMore
import Derived.Deep.OwnRows
import Derived.Tactics
import Derived.Lib.ConvBytes
import Derived.Laws.Slices
import Derived.WalkKit
import Derived.KernelRfl
import Derived.RowKit3
import Derived.Deep.LoopGhost
import Derived.Deep.QuietTactic
import Derived.BigQuiet
import Derived.WideLaws
import Derived.Deep.DeepCutAuto
import Derived.Deep.CutBlock
import Derived.Deep.RegionHeld3
import Derived.Laws.Rows
import Derived.Lib.AppendStr
import Derived.ArgAppend
import Derived.Laws.IdiomCopy
import Derived.OrdersHeld
import Derived.Laws.BitsLemmas
import Derived.RowKit
import Derived.Test.YtieohddolkeegaaGreatDoorGlob
import Derived.Test.YtieohddolkeegaaGreatDoorVMore
import Derived.Lib.SplitLaws
import Derived.Test.YtieohddolkeegaaGreatDoorShelf
import Derived.Lib.AppendIntMem
import Derived.Lib.SmallJoins
section
namespace Go.Proofs.YtieohddolkeegaaGreatDoor.G
open Go.RowKit Go.Proofs.aA.aZ Go.Proofs.aA.jM Go.Proofs.aA.mW
attribute [local go_sem] qj ql uO uP o8 o9 qm qo
attribute [local go_sem high] Go.Proofs.YtieohddolkeegaaGreatDoor.G.sH Go.Proofs.YtieohddolkeegaaGreatDoor.G.sJ Go.Proofs.YtieohddolkeegaaGreatDoor.G.sK
set_option linter.unusedVariables false
set_option linter.unusedSimpArgs false
def errW : Option Int → Value
 | none => .nilIface
 | some c => .iface 0 (.int .i64 c)
theorem jv : errW none = .nilIface := rfl
theorem jw (c : Int) : errW (some c) = .iface 0 (.int .i64 c) := rfl
theorem info9 : (Tryz.prog.info? 9).map (fun i => (i.zero, i.size, i.bytes)) = some (some (.string ⟨#[]⟩), 1, 16) := by kernel_rfl
theorem info67 : (Tryz.prog.info? 67).map (fun i => (i.zero, i.size, i.bytes)) = some (some (.agg #[(.string ⟨#[]⟩), (.string ⟨#[]⟩)]), 2, 32) := by kernel_rfl
structure iR where
 f0 : ByteArray
 f1 : ByteArray
def z67 : iR := ⟨(⟨#[]⟩ : ByteArray), (⟨#[]⟩ : ByteArray)⟩
def GX : Kd iR := Kd.iso (Kd.pair Kd.string Kd.string) (fun x : iR => (x.f0, x.f1))
theorem XY {w : World} {x : iR} {cs : List Value} (h : GX.K w x cs) : cs = [.string x.f0, .string x.f1] := by
 obtain ⟨_, _, rfl, rfl, rfl⟩ := h
 exact rfl
theorem Jy {w : World} {base : Nat} {ok : Nat → Prop} {x : iR} {cs : List Value} (h : GX.M w base ok x cs) : cs = [.string x.f0, .string x.f1] := by
 obtain ⟨_, _, rfl, rfl, rfl⟩ := h
 exact rfl
theorem XZ (w : World) (x : iR)  : GX.K w x [.string x.f0, .string x.f1] := ⟨[.string x.f0], [.string x.f1], rfl, rfl, rfl⟩
theorem Td (w : World) (base : Nat) (ok : Nat → Prop) (x : iR)  : GX.M w base ok x [.string x.f0, .string x.f1] := ⟨[.string x.f0], [.string x.f1], rfl, rfl, rfl⟩
def dS (xs : List iR) (i : Int) : iR := xs.getD i.toNat z67
theorem Lm {w : World} {A : Option Addr} {n : Nat} {xs : List iR} (h : Kd.C GX w A n xs) (i : Int) (h0 : 0 ≤ i) (h1 : i < n) : ∃ ad , A = some ad ∧ w.cell? (ad.add (i.toNat * 2)) = some (.string (dS xs i).f0) ∧ w.cell? ⟨(ad.add (i.toNat * 2)).block, (ad.add (i.toNat * 2)).off + 1, none⟩ = some (.string (dS xs i).f1) := by
 obtain ⟨ad, c, e, _, hK, hc0⟩ := Kd.C_get h z67 i h0 h1
 have hc : ∀ j u, c[j]? = some u → w.cell? (ad.add (i.toNat * 2 + j)) = some u := hc0
 obtain rfl := XY hK
 exact ⟨ad, e, hc 0 _ rfl, by rw [← V3 _ _ 1 (by omega)]; exact hc 1 _ rfl⟩
def rd_L4 (xs : List (List ByteArray)) (i : Int) : (List ByteArray) := xs.getD i.toNat ([] : List ByteArray)
def fJ.f (a0 : Int) (a1 : Int) (a2 : Int) : Option (Bool) := if a0 ≥ a1 then (some (decide (a0 ≤ a2))) else (some false)
def dA.l0 : Nat → Int → ByteArray → Int → Option (ByteArray)
 | 0, _, _, _ => none
 | k + 1, x0, x3, x4 => if x4 = 0 then (if x0 < 0 then (if 1 + x3.size ≤ 9223372036854775807 then (some ((⟨#[45]⟩ : ByteArray) ++ x3)) else (none)) else (some x3)) else (if (Int.tmod x4 10) < 0 then (if 0 ≤ (wrap64 (-(Int.tmod x4 10))) then (if (wrap64 (-(Int.tmod x4 10))) ≤ (wrap64 ((wrap64 (-(Int.tmod x4 10))) + 1)) then (if (wrap64 ((wrap64 (-(Int.tmod x4 10))) + 1)) ≤ 10 then (if ((⟨#[48, 49, 50, 51, 52, 53, 54, 55, 56, 57]⟩ : ByteArray).extract ((wrap64 (-(Int.tmod x4 10))) : Int).toNat ((wrap64 ((wrap64 (-(Int.tmod x4 10))) + 1)) : Int).toNat).size + x3.size ≤ 9223372036854775807 then (dA.l0 k x0 (((⟨#[48, 49, 50, 51, 52, 53, 54, 55, 56, 57]⟩ : ByteArray).extract ((wrap64 (-(Int.tmod x4 10))) : Int).toNat ((wrap64 ((wrap64 (-(Int.tmod x4 10))) + 1)) : Int).toNat) ++ x3) (wrap64 (Int.tdiv x4 10))) else (none)) else (none)) else (none)) else (none)) else (if 0 ≤ (Int.tmod x4 10) then (if (Int.tmod x4 10) ≤ (wrap64 ((Int.tmod x4 10) + 1)) then (if (wrap64 ((Int.tmod x4 10) + 1)) ≤ 10 then (if ((⟨#[48, 49, 50, 51, 52, 53, 54, 55, 56, 57]⟩ : ByteArray).extract ((Int.tmod x4 10) : Int).toNat ((wrap64 ((Int.tmod x4 10) + 1)) : Int).toNat).size + x3.size ≤ 9223372036854775807 then (dA.l0 k x0 (((⟨#[48, 49, 50, 51, 52, 53, 54, 55, 56, 57]⟩ : ByteArray).extract ((Int.tmod x4 10) : Int).toNat ((wrap64 ((Int.tmod x4 10) + 1)) : Int).toNat) ++ x3) (wrap64 (Int.tdiv x4 10))) else (none)) else (none)) else (none)) else (none)))
def dA.f (k : Nat) (a0 : Int) : Option (ByteArray) := if a0 = 0 then (some (⟨#[48]⟩ : ByteArray)) else (dA.l0 k a0 (⟨#[]⟩ : ByteArray) a0)
theorem dA.dV : ∀ k, (∀ y0 y1 y2, bz (dA.l0 k y0 y1 y2) (dA.l0 (k + 1) y0 y1 y2))
 | 0 => fun _ _ _ r h => by simp [dA.l0] at h
 | k + 1 => by
  have kF := dA.dV k
  ·intro y0 y1 y2
   unfold dA.l0
   repeat' first
   | (with_reducible first | exact kF _ _ _ | exact bz.refl _ | exact bz.none _ | refine bz.ite ?_ ?_ | refine bz.bind ?_ (fun _ => ?_))
theorem dA.mono : ∀ a0 k, bz (dA.f k a0) (dA.f (k + 1) a0) := by
 intro a0 k
 have kF := dA.dV k
 unfold dA.f
 repeat' first
   | (with_reducible first | exact kF _ _ _ | exact bz.refl _ | exact bz.none _ | refine bz.ite ?_ ?_ | refine bz.bind ?_ (fun _ => ?_))
def bW.l0 : Nat → ByteArray → Int → Int → Option (Int)
 | 0, _, _, _ => none
 | k + 1, x0, x3, x4 => if x4 < (x0.size : Int) then (if 0 ≤ x4 then ((fJ.f (wrap64 (bt x0 x4)) 48 57).bind fun t110 => (if t110 = true then (if (x0.size : Int) > 9 then (some (-1)) else (bW.l0 k x0 (wrap64 ((wrap64 ((wrap64 (10 * x3)) + (wrap64 (bt x0 x4)))) - 48)) (wrap64 (x4 + 1)))) else (some (-1)))) else (none)) else (if x0.toList = ([] : List UInt8) then (some (-1)) else ((dA.f k x3).bind fun t111 => (if t111.toList = x0.toList then (some x3) else (some (-1)))))
def bW.f (k : Nat) (a0 : ByteArray) : Option (Int) := bW.l0 k a0 0 0
theorem bW.dV : ∀ k, (∀ y0 y1 y2, bz (bW.l0 k y0 y1 y2) (bW.l0 (k + 1) y0 y1 y2))
 | 0 => fun _ _ _ r h => by simp [bW.l0] at h
 | k + 1 => by
  have kF := bW.dV k
  ·intro y0 y1 y2
   unfold bW.l0
   repeat' first
   | (with_reducible first | exact kF _ _ _ | exact dA.mono _ _ | exact bz.refl _ | exact bz.none _ | refine bz.ite ?_ ?_ | refine bz.bind ?_ (fun _ => ?_))
theorem bW.mono : ∀ a0 k, bz (bW.f k a0) (bW.f (k + 1) a0) := by
 intro a0 k
 have kF := bW.dV k
 unfold bW.f
 repeat' first
   | (with_reducible first | exact kF _ _ _ | exact dA.mono _ _ | exact bz.refl _ | exact bz.none _ | refine bz.ite ?_ ?_ | refine bz.bind ?_ (fun _ => ?_))
def kR.f (a0 : Int) : Option (Bool) := (fJ.f (wrap64 (a0)) 97 122).bind fun t112 => (if t112 = true then (some true) else ((fJ.f (wrap64 (a0)) 48 57).bind fun t113 => (some t113)))
def lJ.f (a0 : Int) : Option (Bool) := (fJ.f (wrap64 (a0)) 65 90).bind fun t114 => (some t114)
def dE.l0 : Nat → ByteArray → Int → Option (Bool)
 | 0, _, _ => none
 | k + 1, x0, x3 => if x3 < (x0.size : Int) then (if 0 ≤ x3 then ((fJ.f (wrap64 (bt x0 x3)) 48 57).bind fun t115 => (if t115 = true then (dE.l0 k x0 (wrap64 (x3 + 1))) else (some false))) else (none)) else (some (x0.toList != ([] : List UInt8)))
def dE.f (k : Nat) (a0 : ByteArray) : Option (Bool) := dE.l0 k a0 0
theorem dE.dV : ∀ k, (∀ y0 y1, bz (dE.l0 k y0 y1) (dE.l0 (k + 1) y0 y1))
 | 0 => fun _ _ r h => by simp [dE.l0] at h
 | k + 1 => by
  have kF := dE.dV k
  ·intro y0 y1
   unfold dE.l0
   repeat' first
   | (with_reducible first | exact kF _ _ | exact bz.refl _ | exact bz.none _ | refine bz.ite ?_ ?_ | refine bz.bind ?_ (fun _ => ?_))
theorem dE.mono : ∀ a0 k, bz (dE.f k a0) (dE.f (k + 1) a0) := by
 intro a0 k
 have kF := dE.dV k
 unfold dE.f
 repeat' first
   | (with_reducible first | exact kF _ _ | exact bz.refl _ | exact bz.none _ | refine bz.ite ?_ ?_ | refine bz.bind ?_ (fun _ => ?_))
def dZ.l0 : Nat → ByteArray → Int → Option (Bool)
 | 0, _, _ => none
 | k + 1, x0, x3 => if x3 < (x0.size : Int) then (if 0 ≤ x3 then ((kR.f (bt x0 x3)).bind fun t119 => (if t119 = true then (dZ.l0 k x0 (wrap64 (x3 + 1))) else ((lJ.f (bt x0 x3)).bind fun t120 => (if t120 = true then (dZ.l0 k x0 (wrap64 (x3 + 1))) else (if (bt x0 x3) = 45 then (dZ.l0 k x0 (wrap64 (x3 + 1))) else (some false)))))) else (none)) else ((fJ.f (x0.size : Int) 1 20).bind fun t116 => (if t116 = true then ((dE.f k x0).bind fun t117 => (if t117 = true then ((bW.f k x0).bind fun t118 => (some (decide (t118 ≥ 0)))) else (some true))) else (some false)))
def dZ.f (k : Nat) (a0 : ByteArray) : Option (Bool) := dZ.l0 k a0 0
theorem dZ.dV : ∀ k, (∀ y0 y1, bz (dZ.l0 k y0 y1) (dZ.l0 (k + 1) y0 y1))
 | 0 => fun _ _ r h => by simp [dZ.l0] at h
 | k + 1 => by
  have kF := dZ.dV k
  ·intro y0 y1
   unfold dZ.l0
   repeat' first
   | (with_reducible first | exact kF _ _ | exact bW.mono _ _ | exact dE.mono _ _ | exact bz.refl _ | exact bz.none _ | refine bz.ite ?_ ?_ | refine bz.bind ?_ (fun _ => ?_))
theorem dZ.mono : ∀ a0 k, bz (dZ.f k a0) (dZ.f (k + 1) a0) := by
 intro a0 k
 have kF := dZ.dV k
 unfold dZ.f
 repeat' first
   | (with_reducible first | exact kF _ _ | exact bW.mono _ _ | exact dE.mono _ _ | exact bz.refl _ | exact bz.none _ | refine bz.ite ?_ ?_ | refine bz.bind ?_ (fun _ => ?_))
def bP.l0 : Nat → Int → Int → Int → Int → List ByteArray → Option (Bool)
 | 0, _, _, _, _, _ => none
 | k + 1, x3, Lp, Lr, Ls, DI => if x3 < (DI.length : Int) then (if 0 ≤ x3 then ((dZ.f k (iE ByteArray.empty DI x3)).bind fun t123 => (if t123 = true then (bP.l0 k (wrap64 (x3 + 1)) Lp Lr Ls DI) else (some false))) else (none)) else ((fJ.f Lp 0 999999999).bind fun t124 => (if t124 = true then ((fJ.f Lr 0 999999999).bind fun t125 => (if t125 = true then ((fJ.f Ls 0 999999999).bind fun t126 => (if t126 = true then (some (decide ((DI.length : Int) ≤ 5))) else (some false))) else (some false))) else (some false)))
def bP.f (k : Nat) (iY : Int) (iq : Int) (jK : Int) (jE : List ByteArray) : Option (Bool) := bP.l0 k 0 iY iq jK jE
theorem bP.dV : ∀ k, (∀ y0 y1 y2 y3 y4, bz (bP.l0 k y0 y1 y2 y3 y4) (bP.l0 (k + 1) y0 y1 y2 y3 y4))
 | 0 => fun _ _ _ _ _ r h => by simp [bP.l0] at h
 | k + 1 => by
  have kF := bP.dV k
  ·intro y0 y1 y2 y3 y4
   unfold bP.l0
   repeat' first
   | (with_reducible first | exact kF _ _ _ _ _ | exact dZ.mono _ _ | exact bz.refl _ | exact bz.none _ | refine bz.ite ?_ ?_ | refine bz.bind ?_ (fun _ => ?_))
theorem bP.mono : ∀ a0 a1 a2 a3 k, bz (bP.f k a0 a1 a2 a3) (bP.f (k + 1) a0 a1 a2 a3) := by
 intro a0 a1 a2 a3 k
 have kF := bP.dV k
 unfold bP.f
 repeat' first
   | (with_reducible first | exact kF _ _ _ _ _ | exact dZ.mono _ _ | exact bz.refl _ | exact bz.none _ | refine bz.ite ?_ ?_ | refine bz.bind ?_ (fun _ => ?_))
def au.l0 : Nat → ByteArray → Int → Int → Int → Int → List ByteArray → Option (ByteArray)
 | 0, _, _, _, _, _, _ => none
 | k + 1, x3, x4, Lt, Lu, MB, wH => if x4 < (wH.length : Int) then (if x4 = 0 then (if x3.size + 1 ≤ 9223372036854775807 then (if 0 ≤ x4 then (if (x3 ++ (⟨#[45]⟩ : ByteArray)).size + (iE ByteArray.empty wH x4).size ≤ 9223372036854775807 then (au.l0 k ((x3 ++ (⟨#[45]⟩ : ByteArray)) ++ (iE ByteArray.empty wH x4)) (wrap64 (x4 + 1)) Lt Lu MB wH) else (none)) else (none)) else (none)) else (if x3.size + 1 ≤ 9223372036854775807 then (if 0 ≤ x4 then (if (x3 ++ (⟨#[46]⟩ : ByteArray)).size + (iE ByteArray.empty wH x4).size ≤ 9223372036854775807 then (au.l0 k ((x3 ++ (⟨#[46]⟩ : ByteArray)) ++ (iE ByteArray.empty wH x4)) (wrap64 (x4 + 1)) Lt Lu MB wH) else (none)) else (none)) else (none))) else (some x3)
def au.f (k : Nat) (iY : Int) (iq : Int) (jK : Int) (jE : List ByteArray) : Option (ByteArray) := (bP.f k iY iq jK jE).bind fun t128 => (if t128 = true then ((dA.f k iY).bind fun t129 => (if t129.size + 1 ≤ 9223372036854775807 then ((dA.f k iq).bind fun t130 => (if (t129 ++ (⟨#[46]⟩ : ByteArray)).size + t130.size ≤ 9223372036854775807 then (if ((t129 ++ (⟨#[46]⟩ : ByteArray)) ++ t130).size + 1 ≤ 9223372036854775807 then ((dA.f k jK).bind fun t131 => (if (((t129 ++ (⟨#[46]⟩ : ByteArray)) ++ t130) ++ (⟨#[46]⟩ : ByteArray)).size + t131.size ≤ 9223372036854775807 then (au.l0 k ((((t129 ++ (⟨#[46]⟩ : ByteArray)) ++ t130) ++ (⟨#[46]⟩ : ByteArray)) ++ t131) 0 iY iq jK jE) else (none))) else (none)) else (none))) else (none))) else (some (⟨#[]⟩ : ByteArray)))
theorem au.dV : ∀ k, (∀ y0 y1 y2 y3 y4 y5, bz (au.l0 k y0 y1 y2 y3 y4 y5) (au.l0 (k + 1) y0 y1 y2 y3 y4 y5))
 | 0 => fun _ _ _ _ _ _ r h => by simp [au.l0] at h
 | k + 1 => by
  have kF := au.dV k
  ·intro y0 y1 y2 y3 y4 y5
   unfold au.l0
   repeat' first
   | (with_reducible first | exact kF _ _ _ _ _ _ | exact dA.mono _ _ | exact bP.mono _ _ _ _ _ | exact bz.refl _ | exact bz.none _ | refine bz.ite ?_ ?_ | refine bz.bind ?_ (fun _ => ?_))
theorem au.mono : ∀ a0 a1 a2 a3 k, bz (au.f k a0 a1 a2 a3) (au.f (k + 1) a0 a1 a2 a3) := by
 intro a0 a1 a2 a3 k
 have kF := au.dV k
 unfold au.f
 repeat' first
   | (with_reducible first | exact kF _ _ _ _ _ _ | exact dA.mono _ _ | exact bP.mono _ _ _ _ _ | exact bz.refl _ | exact bz.none _ | refine bz.ite ?_ ?_ | refine bz.bind ?_ (fun _ => ?_))
def fK.l0 : Nat → ByteArray → Int → Int → Option (Int)
 | 0, _, _, _ => none
 | k + 1, x0, x1, x5 => if x5 < (x0.size : Int) then (if 0 ≤ x5 then (if (bt x0 x5) = x1 then (some x5) else (fK.l0 k x0 x1 (wrap64 (x5 + 1)))) else (none)) else (some (-1))
def fK.f (k : Nat) (a0 : ByteArray) (a1 : Int) : Option (Int) := fK.l0 k a0 a1 0
theorem fK.dV : ∀ k, (∀ y0 y1 y2, bz (fK.l0 k y0 y1 y2) (fK.l0 (k + 1) y0 y1 y2))
 | 0 => fun _ _ _ r h => by simp [fK.l0] at h
 | k + 1 => by
  have kF := fK.dV k
  ·intro y0 y1 y2
   unfold fK.l0
   repeat' first
   | (with_reducible first | exact kF _ _ _ | exact bz.refl _ | exact bz.none _ | refine bz.ite ?_ ?_ | refine bz.bind ?_ (fun _ => ?_))
theorem fK.mono : ∀ a0 a1 k, bz (fK.f k a0 a1) (fK.f (k + 1) a0 a1) := by
 intro a0 a1 k
 have kF := fK.dV k
 unfold fK.f
 repeat' first
   | (with_reducible first | exact kF _ _ _ | exact bz.refl _ | exact bz.none _ | refine bz.ite ?_ ?_ | refine bz.bind ?_ (fun _ => ?_))
def dF.l0 : Nat → ByteArray → Int → List ByteArray → Int → Int → Option (List ByteArray)
 | 0, _, _, _, _, _ => none
 | k + 1, x0, x1, x5, x6, x7 => if x7 < (x0.size : Int) then (if 0 ≤ x7 then (if (bt x0 x7) = x1 then (if 0 ≤ x6 then (if x6 ≤ x7 then (if x7 ≤ (x0.size : Int) then (if x5.length < 8796093022208 then (dF.l0 k x0 x1 (x5 ++ [x0.extract (x6 : Int).toNat (x7 : Int).toNat]) (wrap64 (x7 + 1)) (wrap64 (x7 + 1))) else (none)) else (none)) else (none)) else (none)) else (dF.l0 k x0 x1 x5 x6 (wrap64 (x7 + 1)))) else (none)) else (if 0 ≤ x6 then (if x6 ≤ (x0.size : Int) then (if x5.length < 8796093022208 then (some (x5 ++ [x0.extract (x6 : Int).toNat x0.size])) else (none)) else (none)) else (none))
def dF.f (k : Nat) (a0 : ByteArray) (a1 : Int) : Option (List ByteArray) := dF.l0 k a0 a1 (([] : List ByteArray)) 0 0
theorem dF.dV : ∀ k, (∀ y0 y1 y2 y3 y4, bz (dF.l0 k y0 y1 y2 y3 y4) (dF.l0 (k + 1) y0 y1 y2 y3 y4))
 | 0 => fun _ _ _ _ _ r h => by simp [dF.l0] at h
 | k + 1 => by
  have kF := dF.dV k
  ·intro y0 y1 y2 y3 y4
   unfold dF.l0
   repeat' first
   | (with_reducible first | exact kF _ _ _ _ _ | exact bz.refl _ | exact bz.none _ | refine bz.ite ?_ ?_ | refine bz.bind ?_ (fun _ => ?_))
theorem dF.mono : ∀ a0 a1 k, bz (dF.f k a0 a1) (dF.f (k + 1) a0 a1) := by
 intro a0 a1 k
 have kF := dF.dV k
 unfold dF.f
 repeat' first
   | (with_reducible first | exact kF _ _ _ _ _ | exact bz.refl _ | exact bz.none _ | refine bz.ite ?_ ?_ | refine bz.bind ?_ (fun _ => ?_))
def ae.j0 : Nat → ByteArray → ByteArray → Int → Int → Int → List ByteArray → Option (Int × Int × Int × List ByteArray × Bool)
 | 0, _, _, _, _, _, _ => none
 | k + 1, x0, x5, x145000, x145001, x145002, Tf => (dF.f k x5 46).bind fun t149 => (if (t149.length : Int) = 3 then (if 0 < (t149.length : Int) then ((bW.f k (iE ByteArray.empty t149 0)).bind fun t153 => (if 1 < (t149.length : Int) then ((bW.f k (iE ByteArray.empty t149 1)).bind fun t155 => (if 2 < (t149.length : Int) then ((bW.f k (iE ByteArray.empty t149 2)).bind fun t157 => ((au.f k t153 t155 t157 Tf).bind fun t158 => (if t158.toList = x0.toList then (some (t153, t155, t157, Tf, true)) else (some (0, 0, 0, ([] : List ByteArray), false))))) else (none))) else (none))) else (none)) else (some (0, 0, 0, ([] : List ByteArray), false)))
def ae.f (k : Nat) (a0 : ByteArray) : Option (Int × Int × Int × List ByteArray × Bool) := (fK.f k a0 45).bind fun t145 => (if t145 ≥ 0 then (if 0 ≤ t145 then (if t145 ≤ (a0.size : Int) then (if 0 ≤ (wrap64 (t145 + 1)) then (if (wrap64 (t145 + 1)) ≤ (a0.size : Int) then ((dF.f k (a0.extract ((wrap64 (t145 + 1)) : Int).toNat a0.size) 46).bind fun t146 => (ae.j0 k a0 (a0.extract 0 (t145 : Int).toNat) 0 0 0 t146)) else (none)) else (none)) else (none)) else (none)) else (ae.j0 k a0 a0 0 0 0 ([] : List ByteArray)))
theorem ae.dV : ∀ k, (∀ y0 y1 y2 y3 y4 y5, bz (ae.j0 k y0 y1 y2 y3 y4 y5) (ae.j0 (k + 1) y0 y1 y2 y3 y4 y5))
 | 0 => fun _ _ _ _ _ _ r h => by simp [ae.j0] at h
 | k + 1 => by
  have kF := ae.dV k
  ·intro y0 y1 y2 y3 y4 y5
   unfold ae.j0
   repeat' first
   | (with_reducible first | exact kF _ _ _ _ _ _ | exact bW.mono _ _ | exact au.mono _ _ _ _ _ | exact fK.mono _ _ _ | exact dF.mono _ _ _ | exact bz.refl _ | exact bz.none _ | refine bz.ite ?_ ?_ | refine bz.bind ?_ (fun _ => ?_))
theorem ae.mono : ∀ a0 k, bz (ae.f k a0) (ae.f (k + 1) a0) := by
 intro a0 k
 have kF := ae.dV k
 unfold ae.f
 repeat' first
   | (with_reducible first | exact kF _ _ _ _ _ _ | exact bW.mono _ _ | exact au.mono _ _ _ _ _ | exact fK.mono _ _ _ | exact dF.mono _ _ _ | exact bz.refl _ | exact bz.none _ | refine bz.ite ?_ ?_ | refine bz.bind ?_ (fun _ => ?_))
def jS.f (k : Nat) (a0 : ByteArray) : Option (Bool) := (ae.f k a0).bind fun bt233 => (if bt233.2.2.2.2 = true then (some true) else (some (a0.toList == ([] : List UInt8))))
theorem jS.mono : ∀ a0 k, bz (jS.f k a0) (jS.f (k + 1) a0) := by
 intro a0 k
 unfold jS.f
 repeat' first
   | (with_reducible first | exact ae.mono _ _ | exact bz.refl _ | exact bz.none _ | refine bz.ite ?_ ?_ | refine bz.bind ?_ (fun _ => ?_))
def bZ.l0 : Nat → List (iR) → Int → Option (Bool)
 | 0, _, _ => none
 | k + 1, x0, x3 => if x3 < (x0.length : Int) then (if 0 ≤ x3 then ((jS.f k ((dS x0 x3).f0)).bind fun t243 => (if t243 = true then ((jS.f k ((dS x0 x3).f1)).bind fun t245 => (if t245 = true then (bZ.l0 k x0 (wrap64 (x3 + 1))) else (some false))) else (some false))) else (none)) else ((fJ.f (x0.length : Int) 1 8).bind fun t241 => (some t241))
def bZ.f (k : Nat) (l0 : List (iR)) : Option (Bool) := bZ.l0 k l0 0
theorem bZ.dV : ∀ k, (∀ y0 y1, bz (bZ.l0 k y0 y1) (bZ.l0 (k + 1) y0 y1))
 | 0 => fun _ _ r h => by simp [bZ.l0] at h
 | k + 1 => by
  have kF := bZ.dV k
  ·intro y0 y1
   unfold bZ.l0
   repeat' first
   | (with_reducible first | exact kF _ _ | exact jS.mono _ _ | exact bz.refl _ | exact bz.none _ | refine bz.ite ?_ ?_ | refine bz.bind ?_ (fun _ => ?_))
theorem bZ.mono : ∀ a0 k, bz (bZ.f k a0) (bZ.f (k + 1) a0) := by
 intro a0 k
 have kF := bZ.dV k
 unfold bZ.f
 repeat' first
   | (with_reducible first | exact kF _ _ | exact jS.mono _ _ | exact bz.refl _ | exact bz.none _ | refine bz.ite ?_ ?_ | refine bz.bind ?_ (fun _ => ?_))
def aj.l0 : Nat → ByteArray → List ByteArray → Int → Int → Option (List ByteArray)
 | 0, _, _, _, _ => none
 | k + 1, x0, x3, x4, x5 => if (wrap64 (x5 + 4)) ≤ (x0.size : Int) then (if x5 ≥ x4 then (if 0 ≤ x5 then (if x5 ≤ (wrap64 (x5 + 4)) then (if (x0.extract (x5 : Int).toNat ((wrap64 (x5 + 4)) : Int).toNat).toList = ([32, 124, 124, 32] : List UInt8) then (if 0 ≤ x4 then (if x4 ≤ x5 then (if x5 ≤ (x0.size : Int) then (if x3.length < 8796093022208 then (aj.l0 k x0 (x3 ++ [x0.extract (x4 : Int).toNat (x5 : Int).toNat]) (wrap64 (x5 + 4)) (wrap64 (x5 + 1))) else (none)) else (none)) else (none)) else (none)) else (aj.l0 k x0 x3 x4 (wrap64 (x5 + 1)))) else (none)) else (none)) else (aj.l0 k x0 x3 x4 (wrap64 (x5 + 1)))) else (if 0 ≤ x4 then (if x4 ≤ (x0.size : Int) then (if x3.length < 8796093022208 then (some (x3 ++ [x0.extract (x4 : Int).toNat x0.size])) else (none)) else (none)) else (none))
def aj.f (k : Nat) (a0 : ByteArray) : Option (List ByteArray) := aj.l0 k a0 (([] : List ByteArray)) 0 0
theorem aj.dV : ∀ k, (∀ y0 y1 y2 y3, bz (aj.l0 k y0 y1 y2 y3) (aj.l0 (k + 1) y0 y1 y2 y3))
 | 0 => fun _ _ _ _ r h => by simp [aj.l0] at h
 | k + 1 => by
  have kF := aj.dV k
  ·intro y0 y1 y2 y3
   unfold aj.l0
   repeat' first
   | (with_reducible first | exact kF _ _ _ _ | exact bz.refl _ | exact bz.none _ | refine bz.ite ?_ ?_ | refine bz.bind ?_ (fun _ => ?_))
theorem aj.mono : ∀ a0 k, bz (aj.f k a0) (aj.f (k + 1) a0) := by
 intro a0 k
 have kF := aj.dV k
 unfold aj.f
 repeat' first
   | (with_reducible first | exact kF _ _ _ _ | exact bz.refl _ | exact bz.none _ | refine bz.ite ?_ ?_ | refine bz.bind ?_ (fun _ => ?_))
def iH.f (a0 : Int) (a1 : Int) : Option (Int) := if a0 < a1 then (some (-1)) else (if a0 > a1 then (some 1) else (some 0))
def mM.f (a0 : ByteArray) (a1 : ByteArray) : Option (Int) := if (Op.bytesLess a0.toList a1.toList) = true then (some (-1)) else (if (Op.bytesLess a1.toList a0.toList) = true then (some 1) else (some 0))
def dN.j0 : Nat → ByteArray → ByteArray → Int → Int → Bool → Option (Int)
 | 0, _, _, _, _, _ => none
 | k + 1, x0, x1, x5, x6, x11 => if x11 = true then ((iH.f x5 x6).bind fun t161 => (some t161)) else (if x5 ≥ 0 then (some (-1)) else (if x6 ≥ 0 then (some 1) else ((mM.f x0 x1).bind fun t162 => (some t162))))
def dN.f (k : Nat) (a0 : ByteArray) (a1 : ByteArray) : Option (Int) := (bW.f k a0).bind fun t159 => ((bW.f k a1).bind fun t160 => (if t159 ≥ 0 then (dN.j0 k a0 a1 t159 t160 (decide (t160 ≥ 0))) else (dN.j0 k a0 a1 t159 t160 false)))
theorem dN.dV : ∀ k, (∀ y0 y1 y2 y3 y4, bz (dN.j0 k y0 y1 y2 y3 y4) (dN.j0 (k + 1) y0 y1 y2 y3 y4))
 | 0 => fun _ _ _ _ _ r h => by simp [dN.j0] at h
 | k + 1 => by
  have kF := dN.dV k
  ·intro y0 y1 y2 y3 y4
   unfold dN.j0
   repeat' first
   | (with_reducible first | exact kF _ _ _ _ _ | exact bW.mono _ _ | exact bz.refl _ | exact bz.none _ | refine bz.ite ?_ ?_ | refine bz.bind ?_ (fun _ => ?_))
theorem dN.mono : ∀ a0 a1 k, bz (dN.f k a0 a1) (dN.f (k + 1) a0 a1) := by
 intro a0 a1 k
 have kF := dN.dV k
 unfold dN.f
 repeat' first
   | (with_reducible first | exact kF _ _ _ _ _ | exact bW.mono _ _ | exact bz.refl _ | exact bz.none _ | refine bz.ite ?_ ?_ | refine bz.bind ?_ (fun _ => ?_))
mutual
def aC.l0 : Nat → List Int → Int → Int → Int → Int → List ByteArray → Int → Int → Int → List ByteArray → Option (Int)
 | 0, _, _, _, _, _, _, _, _, _, _ => none
 | k + 1, x5, x6, qC, qE, qF, lT, qG, qH, qI, lU => if x6 < 3 then (if 0 ≤ x6 then (if x6 < (x5.length : Int) then (if (rd x5 x6) = 0 then (aC.l0 k x5 (wrap64 (x6 + 1)) qC qE qF lT qG qH qI lU) else (some (rd x5 x6))) else (none)) else (none)) else (if (lT.length : Int) = 0 then (aC.j1 k true qC qE qF lT qG qH qI lU) else (aC.j1 k ((lU.length : Int) == 0) qC qE qF lT qG qH qI lU))
def aC.j1 : Nat → Bool → Int → Int → Int → List ByteArray → Int → Int → Int → List ByteArray → Option (Int)
 | 0, _, _, _, _, _, _, _, _, _ => none
 | k + 1, x47, qC, qE, qF, lT, qG, qH, qI, lU => if x47 = true then ((iH.f (lU.length : Int) (lT.length : Int)).bind fun t173 => (some t173)) else (aC.l1 k 0 qC qE qF lT qG qH qI lU)
def aC.l1 : Nat → Int → Int → Int → Int → List ByteArray → Int → Int → Int → List ByteArray → Option (Int)
 | 0, _, _, _, _, _, _, _, _, _ => none
 | k + 1, x7, qC, qE, qF, lT, qG, qH, qI, lU => if x7 < (lT.length : Int) then (aC.j3 k x7 (decide (x7 < (lU.length : Int))) qC qE qF lT qG qH qI lU) else (aC.j3 k x7 false qC qE qF lT qG qH qI lU)
def aC.j3 : Nat → Int → Bool → Int → Int → Int → List ByteArray → Int → Int → Int → List ByteArray → Option (Int)
 | 0, _, _, _, _, _, _, _, _, _, _ => none
 | k + 1, x7, x66, qC, qE, qF, lT, qG, qH, qI, lU => if x66 = true then (if 0 ≤ x7 then (if x7 < (lT.length : Int) then (if x7 < (lU.length : Int) then ((dN.f k (iE ByteArray.empty lT x7) (iE ByteArray.empty lU x7)).bind fun t176 => (if t176 = 0 then (aC.l1 k (wrap64 (x7 + 1)) qC qE qF lT qG qH qI lU) else (some t176))) else (none)) else (none)) else (none)) else ((iH.f (lT.length : Int) (lU.length : Int)).bind fun t177 => (some t177))
end
def aC.f (k : Nat) (iY : Int) (iq : Int) (jK : Int) (jE : List ByteArray) (tV : Int) (tX : Int) (tY : Int) (tZ : List ByteArray) : Option (Int) := (iH.f iY tV).bind fun t165 => ((iH.f iq tX).bind fun t166 => ((iH.f jK tY).bind fun t167 => (aC.l0 k (([t165, t166, t167] : List Int)) 0 iY iq jK jE tV tX tY tZ)))
theorem aC.dV : ∀ k, (∀ y0 y1 y2 y3 y4 y5 y6 y7 y8 y9, bz (aC.l0 k y0 y1 y2 y3 y4 y5 y6 y7 y8 y9) (aC.l0 (k + 1) y0 y1 y2 y3 y4 y5 y6 y7 y8 y9)) ∧ (∀ y0 y1 y2 y3 y4 y5 y6 y7 y8, bz (aC.j1 k y0 y1 y2 y3 y4 y5 y6 y7 y8) (aC.j1 (k + 1) y0 y1 y2 y3 y4 y5 y6 y7 y8)) ∧ (∀ y0 y1 y2 y3 y4 y5 y6 y7 y8, bz (aC.l1 k y0 y1 y2 y3 y4 y5 y6 y7 y8) (aC.l1 (k + 1) y0 y1 y2 y3 y4 y5 y6 y7 y8)) ∧ (∀ y0 y1 y2 y3 y4 y5 y6 y7 y8 y9, bz (aC.j3 k y0 y1 y2 y3 y4 y5 y6 y7 y8 y9) (aC.j3 (k + 1) y0 y1 y2 y3 y4 y5 y6 y7 y8 y9))
 | 0 => ⟨fun _ _ _ _ _ _ _ _ _ _ r h => by simp [aC.l0] at h, fun _ _ _ _ _ _ _ _ _ r h => by simp [aC.j1] at h, fun _ _ _ _ _ _ _ _ _ r h => by simp [aC.l1] at h, fun _ _ _ _ _ _ _ _ _ _ r h => by simp [aC.j3] at h⟩
 | k + 1 => by
  obtain ⟨kF, ih1, ih2, ih3⟩ := aC.dV k
  refine ⟨?_, ?_, ?_, ?_⟩
  ·intro y0 y1 y2 y3 y4 y5 y6 y7 y8 y9
   unfold aC.l0
   repeat' first
   | (with_reducible first | exact kF _ _ _ _ _ _ _ _ _ _ | exact ih1 _ _ _ _ _ _ _ _ _ | exact ih2 _ _ _ _ _ _ _ _ _ | exact ih3 _ _ _ _ _ _ _ _ _ _ | exact dN.mono _ _ _ | exact bz.refl _ | exact bz.none _ | refine bz.ite ?_ ?_ | refine bz.bind ?_ (fun _ => ?_))
  ·intro y0 y1 y2 y3 y4 y5 y6 y7 y8
   unfold aC.j1
   repeat' first
   | (with_reducible first | exact kF _ _ _ _ _ _ _ _ _ _ | exact ih1 _ _ _ _ _ _ _ _ _ | exact ih2 _ _ _ _ _ _ _ _ _ | exact ih3 _ _ _ _ _ _ _ _ _ _ | exact dN.mono _ _ _ | exact bz.refl _ | exact bz.none _ | refine bz.ite ?_ ?_ | refine bz.bind ?_ (fun _ => ?_))
  ·intro y0 y1 y2 y3 y4 y5 y6 y7 y8
   unfold aC.l1
   repeat' first
   | (with_reducible first | exact kF _ _ _ _ _ _ _ _ _ _ | exact ih1 _ _ _ _ _ _ _ _ _ | exact ih2 _ _ _ _ _ _ _ _ _ | exact ih3 _ _ _ _ _ _ _ _ _ _ | exact dN.mono _ _ _ | exact bz.refl _ | exact bz.none _ | refine bz.ite ?_ ?_ | refine bz.bind ?_ (fun _ => ?_))
  ·intro y0 y1 y2 y3 y4 y5 y6 y7 y8 y9
   unfold aC.j3
   repeat' first
   | (with_reducible first | exact kF _ _ _ _ _ _ _ _ _ _ | exact ih1 _ _ _ _ _ _ _ _ _ | exact ih2 _ _ _ _ _ _ _ _ _ | exact ih3 _ _ _ _ _ _ _ _ _ _ | exact dN.mono _ _ _ | exact bz.refl _ | exact bz.none _ | refine bz.ite ?_ ?_ | refine bz.bind ?_ (fun _ => ?_))
theorem aC.mono : ∀ a0 a1 a2 a3 a4 a5 a6 a7 k, bz (aC.f k a0 a1 a2 a3 a4 a5 a6 a7) (aC.f (k + 1) a0 a1 a2 a3 a4 a5 a6 a7) := by
 intro a0 a1 a2 a3 a4 a5 a6 a7 k
 obtain ⟨kF, ih1, ih2, ih3⟩ := aC.dV k
 unfold aC.f
 repeat' first
   | (with_reducible first | exact kF _ _ _ _ _ _ _ _ _ _ | exact ih1 _ _ _ _ _ _ _ _ _ | exact ih2 _ _ _ _ _ _ _ _ _ | exact ih3 _ _ _ _ _ _ _ _ _ _ | exact dN.mono _ _ _ | exact bz.refl _ | exact bz.none _ | refine bz.ite ?_ ?_ | refine bz.bind ?_ (fun _ => ?_))
def gZ.j0 : Nat → Int → Bool → Int → Int → Int → List ByteArray → Int → Int → Int → List ByteArray → Int → Int → Int → Option (Int × Int × Int × List ByteArray)
 | 0, _, _, _, _, _, _, _, _, _, _, _, _, _ => none
 | k + 1, x1, x30, Ti, AQ, Gw, x179003, DJ, DK, DL, DN, AU, Tj, Gx => if x30 = true then (some (DJ, DK, DL, DN)) else (if x1 = 0 then ((bP.f k (wrap64 (Ti + 1)) Tj Gx ([] : List ByteArray)).bind fun t190 => (if t190 = true then (some (wrap64 (Ti + 1), Tj, Gx, ([] : List ByteArray))) else (some (DJ, DK, DL, DN)))) else (if x1 = 1 then ((bP.f k AU (wrap64 (AQ + 1)) Gx ([] : List ByteArray)).bind fun t191 => (if t191 = true then (some (AU, wrap64 (AQ + 1), Gx, ([] : List ByteArray))) else (some (DJ, DK, DL, DN)))) else (if (x179003.length : Int) = 0 then ((bP.f k AU AQ (wrap64 (Gw + 1)) ([] : List ByteArray)).bind fun t192 => (if t192 = true then (some (AU, AQ, wrap64 (Gw + 1), ([] : List ByteArray))) else (some (DJ, DK, DL, DN)))) else ((bP.f k AU AQ Gw ([] : List ByteArray)).bind fun t193 => (if t193 = true then (some (AU, AQ, Gw, ([] : List ByteArray))) else (some (DJ, DK, DL, DN)))))))
def gZ.f (k : Nat) (iY : Int) (iq : Int) (jK : Int) (jE : List ByteArray) (a1 : Int) : Option (Int × Int × Int × List ByteArray) := (some (([] : List ByteArray) : List ByteArray)).bind fun y181 => (if y181.length + jE.length < 8796093022208 then ((some (y181 ++ jE : List ByteArray)).bind fun y184 => ((bP.f k iY iq jK jE).bind fun t188 => (if t188 = true then ((fJ.f a1 0 2).bind fun t189 => (gZ.j0 k a1 (!t189) iY iq jK jE iY iq jK y184 iY 0 0)) else (gZ.j0 k a1 true iY iq jK jE iY iq jK y184 iY 0 0)))) else (none))
theorem gZ.dV : ∀ k, (∀ y0 y1 y2 y3 y4 y5 y6 y7 y8 y9 y10 y11 y12, bz (gZ.j0 k y0 y1 y2 y3 y4 y5 y6 y7 y8 y9 y10 y11 y12) (gZ.j0 (k + 1) y0 y1 y2 y3 y4 y5 y6 y7 y8 y9 y10 y11 y12))
 | 0 => fun _ _ _ _ _ _ _ _ _ _ _ _ _ r h => by simp [gZ.j0] at h
 | k + 1 => by
  have kF := gZ.dV k
  ·intro y0 y1 y2 y3 y4 y5 y6 y7 y8 y9 y10 y11 y12
   unfold gZ.j0
   repeat' first
   | (with_reducible first | exact kF _ _ _ _ _ _ _ _ _ _ _ _ _ | exact bP.mono _ _ _ _ _ | exact bz.refl _ | exact bz.none _ | refine bz.ite ?_ ?_ | refine bz.bind ?_ (fun _ => ?_))
theorem gZ.mono : ∀ a0 a1 a2 a3 a4 k, bz (gZ.f k a0 a1 a2 a3 a4) (gZ.f (k + 1) a0 a1 a2 a3 a4) := by
 intro a0 a1 a2 a3 a4 k
 have kF := gZ.dV k
 unfold gZ.f
 repeat' first
   | (with_reducible first | exact kF _ _ _ _ _ _ _ _ _ _ _ _ _ | exact bP.mono _ _ _ _ _ | exact bz.refl _ | exact bz.none _ | refine bz.ite ?_ ?_ | refine bz.bind ?_ (fun _ => ?_))
def eu.f (k : Nat) (iY : Int) (iq : Int) (jK : Int) (jE : List ByteArray) (a1 : Int) : Option (ByteArray × Bool) := (some (([] : List ByteArray) : List ByteArray)).bind fun y195 => ((gZ.f k iY iq jK y195 a1).bind fun Ht => ((aC.f k Ht.1 Ht.2.1 Ht.2.2.1 Ht.2.2.2 iY iq jK y195).bind fun t205 => (if t205 = 0 then (some ((⟨#[]⟩ : ByteArray), false)) else ((au.f k Ht.1 Ht.2.1 Ht.2.2.1 (([(⟨#[48]⟩ : ByteArray)] : List ByteArray))).bind fun t209 => (some (t209, true))))))
theorem eu.mono : ∀ a0 a1 a2 a3 a4 k, bz (eu.f k a0 a1 a2 a3 a4) (eu.f (k + 1) a0 a1 a2 a3 a4) := by
 intro a0 a1 a2 a3 a4 k
 unfold eu.f
 repeat' first
   | (with_reducible first | exact aC.mono _ _ _ _ _ _ _ _ _ | exact gZ.mono _ _ _ _ _ _ | exact au.mono _ _ _ _ _ | exact bz.refl _ | exact bz.none _ | refine bz.ite ?_ ?_ | refine bz.bind ?_ (fun _ => ?_))
def fE.f (k : Nat) (a0 : ByteArray) : Option (ByteArray × ByteArray × Bool) := (ae.f k a0).bind fun Jz => (if Jz.2.2.2.2 = true then (if (Jz.2.2.2.1.length : Int) > 0 then (if a0.size + 2 ≤ 9223372036854775807 then ((ae.f k (a0 ++ (⟨#[46, 48]⟩ : ByteArray))).bind fun bt219 => (if bt219.2.2.2.2 = true then (some (a0, a0 ++ (⟨#[46, 48]⟩ : ByteArray), true)) else (some ((⟨#[]⟩ : ByteArray), (⟨#[]⟩ : ByteArray), false)))) else (none)) else ((eu.f k Jz.1 Jz.2.1 Jz.2.2.1 Jz.2.2.2.1 2).bind fun bt226 => (if bt226.2 = true then (some (a0, bt226.1, true)) else (some ((⟨#[]⟩ : ByteArray), (⟨#[]⟩ : ByteArray), false))))) else (some ((⟨#[]⟩ : ByteArray), (⟨#[]⟩ : ByteArray), false)))
theorem fE.mono : ∀ a0 k, bz (fE.f k a0) (fE.f (k + 1) a0) := by
 intro a0 k
 unfold fE.f
 repeat' first
   | (with_reducible first | exact ae.mono _ _ | exact eu.mono _ _ _ _ _ _ | exact bz.refl _ | exact bz.none _ | refine bz.ite ?_ ?_ | refine bz.bind ?_ (fun _ => ?_))
def iI.f (k : Nat) (a0 : ByteArray) (tV : Int) (tX : Int) (tY : Int) (tZ : List ByteArray) (a2 : Int) : Option (ByteArray × ByteArray × Bool) := (eu.f k tV tX tY tZ a2).bind fun bt230 => (if bt230.2 = true then (some (a0, bt230.1, true)) else (some ((⟨#[]⟩ : ByteArray), (⟨#[]⟩ : ByteArray), false)))
theorem iI.mono : ∀ a0 a1 a2 a3 a4 a5 k, bz (iI.f k a0 a1 a2 a3 a4 a5) (iI.f (k + 1) a0 a1 a2 a3 a4 a5) := by
 intro a0 a1 a2 a3 a4 a5 k
 unfold iI.f
 repeat' first
   | (with_reducible first | exact eu.mono _ _ _ _ _ _ | exact bz.refl _ | exact bz.none _ | refine bz.ite ?_ ?_ | refine bz.bind ?_ (fun _ => ?_))
def jW.f (iY : Int) (iq : Int) (jK : Int) (jE : List ByteArray) : Option (Int) := if iY > 0 then (some 0) else (if iq > 0 then (some 1) else (some 2))
def jT.f (k : Nat) (a0 : ByteArray) : Option (List ByteArray) := (dF.f k a0 32).bind fun t246 => (some t246)
theorem jT.mono : ∀ a0 k, bz (jT.f k a0) (jT.f (k + 1) a0) := by
 intro a0 k
 unfold jT.f
 repeat' first
   | (with_reducible first | exact dF.mono _ _ _ | exact bz.refl _ | exact bz.none _ | refine bz.ite ?_ ?_ | refine bz.bind ?_ (fun _ => ?_))
mutual
def aU.l0 : Nat → List ByteArray → Int → ByteArray → ByteArray → Option (ByteArray × ByteArray × Bool)
 | 0, _, _, _, _ => none
 | k + 1, x4, x6, wI, wJ => if x6 < (x4.length : Int) then (if x6 = 0 then (if 0 ≤ x6 then (if ((iE ByteArray.empty x4 x6).size : Int) > 2 then (if 0 ≤ 2 then (if 2 ≤ ((iE ByteArray.empty x4 x6).size : Int) then (aU.j1 k x4 x6 (((iE ByteArray.empty x4 x6).extract 0 2).toList == ([62, 61] : List UInt8)) wI wJ) else (none)) else (none)) else (aU.j1 k x4 x6 false wI wJ)) else (none)) else (aU.j1 k x4 x6 false wI wJ)) else (if (x4.length : Int) > 2 then (some ((⟨#[]⟩ : ByteArray), (⟨#[]⟩ : ByteArray), false)) else ((bZ.f k (([(⟨wI, wJ⟩ : iR)] : List (iR)))).bind fun t257 => (if t257 = true then (some (wI, wJ, true)) else (some ((⟨#[]⟩ : ByteArray), (⟨#[]⟩ : ByteArray), false)))))
def aU.j1 : Nat → List ByteArray → Int → Bool → ByteArray → ByteArray → Option (ByteArray × ByteArray × Bool)
 | 0, _, _, _, _, _ => none
 | k + 1, x4, x6, x17, wI, wJ => if x17 = true then (if 0 ≤ x6 then (if x6 < (x4.length : Int) then (if 2 ≤ ((iE ByteArray.empty x4 x6).size : Int) then (aU.l0 k x4 (wrap64 (x6 + 1)) ((iE ByteArray.empty x4 x6).extract 2 (iE ByteArray.empty x4 x6).size) wJ) else (none)) else (none)) else (none)) else (if x6 = (wrap64 ((x4.length : Int) - 1)) then (if 0 ≤ x6 then (if x6 < (x4.length : Int) then (if ((iE ByteArray.empty x4 x6).size : Int) > 1 then (if 0 < ((iE ByteArray.empty x4 x6).size : Int) then (if (bt (iE ByteArray.empty x4 x6) 0) = 60 then (if 1 ≤ ((iE ByteArray.empty x4 x6).size : Int) then (aU.l0 k x4 (wrap64 (x6 + 1)) wI ((iE ByteArray.empty x4 x6).extract 1 (iE ByteArray.empty x4 x6).size)) else (none)) else (some ((⟨#[]⟩ : ByteArray), (⟨#[]⟩ : ByteArray), false))) else (none)) else (some ((⟨#[]⟩ : ByteArray), (⟨#[]⟩ : ByteArray), false))) else (none)) else (none)) else (some ((⟨#[]⟩ : ByteArray), (⟨#[]⟩ : ByteArray), false)))
end
def aU.f (k : Nat) (a0 : ByteArray) : Option (ByteArray × ByteArray × Bool) := (jT.f k a0).bind fun t250 => (aU.l0 k t250 0 (⟨#[]⟩ : ByteArray) (⟨#[]⟩ : ByteArray))
theorem aU.dV : ∀ k, (∀ y0 y1 y2 y3, bz (aU.l0 k y0 y1 y2 y3) (aU.l0 (k + 1) y0 y1 y2 y3)) ∧ (∀ y0 y1 y2 y3 y4, bz (aU.j1 k y0 y1 y2 y3 y4) (aU.j1 (k + 1) y0 y1 y2 y3 y4))
 | 0 => ⟨fun _ _ _ _ r h => by simp [aU.l0] at h, fun _ _ _ _ _ r h => by simp [aU.j1] at h⟩
 | k + 1 => by
  obtain ⟨kF, ih1⟩ := aU.dV k
  refine ⟨?_, ?_⟩
  ·intro y0 y1 y2 y3
   unfold aU.l0
   repeat' first
   | (with_reducible first | exact kF _ _ _ _ | exact ih1 _ _ _ _ _ | exact bZ.mono _ _ | exact jT.mono _ _ | exact bz.refl _ | exact bz.none _ | refine bz.ite ?_ ?_ | refine bz.bind ?_ (fun _ => ?_))
  ·intro y0 y1 y2 y3 y4
   unfold aU.j1
   repeat' first
   | (with_reducible first | exact kF _ _ _ _ | exact ih1 _ _ _ _ _ | exact bZ.mono _ _ | exact jT.mono _ _ | exact bz.refl _ | exact bz.none _ | refine bz.ite ?_ ?_ | refine bz.bind ?_ (fun _ => ?_))
theorem aU.mono : ∀ a0 k, bz (aU.f k a0) (aU.f (k + 1) a0) := by
 intro a0 k
 obtain ⟨kF, ih1⟩ := aU.dV k
 unfold aU.f
 repeat' first
   | (with_reducible first | exact kF _ _ _ _ | exact ih1 _ _ _ _ _ | exact bZ.mono _ _ | exact jT.mono _ _ | exact bz.refl _ | exact bz.none _ | refine bz.ite ?_ ?_ | refine bz.bind ?_ (fun _ => ?_))
mutual
def ak.j0 : Nat → List ByteArray → ByteArray → Option (ByteArray × ByteArray × Bool)
 | 0, _, _ => none
 | k + 1, x4, x5 => (ae.f k x5).bind fun wK => (if wK.2.2.2.2 = true then ((fJ.f (x4.length : Int) 1 2).bind fun t276 => (if t276 = true then (ak.j1 k x4 x5 (decide ((wK.2.2.2.1.length : Int) > 0)) wK.1 wK.2.1 wK.2.2.1 wK.2.2.2.1) else (ak.j1 k x4 x5 true wK.1 wK.2.1 wK.2.2.1 wK.2.2.2.1))) else (ak.j1 k x4 x5 true wK.1 wK.2.1 wK.2.2.1 wK.2.2.2.1))
def ak.j1 : Nat → List ByteArray → ByteArray → Bool → Int → Int → Int → List ByteArray → Option (ByteArray × ByteArray × Bool)
 | 0, _, _, _, _, _, _, _ => none
 | k + 1, x4, x5, x37, x276000, x276001, x276002, x276003 => if x37 = true then (some ((⟨#[]⟩ : ByteArray), (⟨#[]⟩ : ByteArray), false)) else ((eu.f k x276000 x276001 x276002 x276003 (wrap64 ((x4.length : Int) - 1))).bind fun bt277 => (if bt277.2 = true then (some (x5, bt277.1, true)) else (some ((⟨#[]⟩ : ByteArray), (⟨#[]⟩ : ByteArray), false))))
end
def ak.f (k : Nat) (a0 : ByteArray) : Option (ByteArray × ByteArray × Bool) := (dF.f k a0 46).bind fun t265 => (if a0.size + 2 ≤ 9223372036854775807 then (if (t265.length : Int) = 1 then (if a0.size + 4 ≤ 9223372036854775807 then (ak.j0 k t265 (a0 ++ (⟨#[46, 48, 46, 48]⟩ : ByteArray))) else (none)) else (ak.j0 k t265 (a0 ++ (⟨#[46, 48]⟩ : ByteArray)))) else (none))
theorem ak.dV : ∀ k, (∀ y0 y1, bz (ak.j0 k y0 y1) (ak.j0 (k + 1) y0 y1)) ∧ (∀ y0 y1 y2 y3 y4 y5 y6, bz (ak.j1 k y0 y1 y2 y3 y4 y5 y6) (ak.j1 (k + 1) y0 y1 y2 y3 y4 y5 y6))
 | 0 => ⟨fun _ _ r h => by simp [ak.j0] at h, fun _ _ _ _ _ _ _ r h => by simp [ak.j1] at h⟩
 | k + 1 => by
  obtain ⟨kF, ih1⟩ := ak.dV k
  refine ⟨?_, ?_⟩
  ·intro y0 y1
   unfold ak.j0
   repeat' first
   | (with_reducible first | exact kF _ _ | exact ih1 _ _ _ _ _ _ _ | exact ae.mono _ _ | exact dF.mono _ _ _ | exact eu.mono _ _ _ _ _ _ | exact bz.refl _ | exact bz.none _ | refine bz.ite ?_ ?_ | refine bz.bind ?_ (fun _ => ?_))
  ·intro y0 y1 y2 y3 y4 y5 y6
   unfold ak.j1
   repeat' first
   | (with_reducible first | exact kF _ _ | exact ih1 _ _ _ _ _ _ _ | exact ae.mono _ _ | exact dF.mono _ _ _ | exact eu.mono _ _ _ _ _ _ | exact bz.refl _ | exact bz.none _ | refine bz.ite ?_ ?_ | refine bz.bind ?_ (fun _ => ?_))
theorem ak.mono : ∀ a0 k, bz (ak.f k a0) (ak.f (k + 1) a0) := by
 intro a0 k
 obtain ⟨kF, ih1⟩ := ak.dV k
 unfold ak.f
 repeat' first
   | (with_reducible first | exact kF _ _ | exact ih1 _ _ _ _ _ _ _ | exact ae.mono _ _ | exact dF.mono _ _ _ | exact eu.mono _ _ _ _ _ _ | exact bz.refl _ | exact bz.none _ | refine bz.ite ?_ ?_ | refine bz.bind ?_ (fun _ => ?_))
mutual
def aJ.j0 : Nat → ByteArray → Bool → Option (ByteArray × ByteArray × Bool)
 | 0, _, _ => none
 | k + 1, x0, Bj => if Bj = true then (if 1 ≤ (x0.size : Int) then ((ae.f k (x0.extract 1 x0.size)).bind fun xA => (if xA.2.2.2.2 = true then (if 0 < (x0.size : Int) then (if (bt x0 0) = 126 then ((iI.f k (x0.extract 1 x0.size) xA.1 xA.2.1 xA.2.2.1 xA.2.2.2.1 1).bind fun X0 => (some (X0.1, X0.2.1, X0.2.2))) else ((jW.f xA.1 xA.2.1 xA.2.2.1 xA.2.2.2.1).bind fun t291 => ((iI.f k (x0.extract 1 x0.size) xA.1 xA.2.1 xA.2.2.1 xA.2.2.2.1 t291).bind fun X3 => (some (X3.1, X3.2.1, X3.2.2))))) else (none)) else (some ((⟨#[]⟩ : ByteArray), (⟨#[]⟩ : ByteArray), false)))) else (none)) else (if (x0.size : Int) > 0 then (if 0 < (x0.size : Int) then (if (bt x0 0) = 62 then (aJ.j1 k x0 true) else (aJ.j1 k x0 ((bt x0 0) == 60))) else (none)) else (aJ.j1 k x0 false))
def aJ.j1 : Nat → ByteArray → Bool → Option (ByteArray × ByteArray × Bool)
 | 0, _, _ => none
 | k + 1, x0, x62 => if x62 = true then ((aU.f k x0).bind fun X4 => (some (X4.1, X4.2.1, X4.2.2))) else ((fE.f k x0).bind fun X5 => (if X5.2.2 = true then (some (X5.1, X5.2.1, true)) else ((ak.f k x0).bind fun X6 => (some (X6.1, X6.2.1, X6.2.2)))))
end
def aJ.f (k : Nat) (a0 : ByteArray) : Option (ByteArray × ByteArray × Bool) := if a0.toList = ([42] : List UInt8) then (some ((⟨#[]⟩ : ByteArray), (⟨#[]⟩ : ByteArray), true)) else (if (a0.size : Int) > 1 then (if 0 < (a0.size : Int) then (if (bt a0 0) = 94 then (aJ.j0 k a0 true) else (aJ.j0 k a0 ((bt a0 0) == 126))) else (none)) else (aJ.j0 k a0 false))
theorem aJ.dV : ∀ k, (∀ y0 y1, bz (aJ.j0 k y0 y1) (aJ.j0 (k + 1) y0 y1)) ∧ (∀ y0 y1, bz (aJ.j1 k y0 y1) (aJ.j1 (k + 1) y0 y1))
 | 0 => ⟨fun _ _ r h => by simp [aJ.j0] at h, fun _ _ r h => by simp [aJ.j1] at h⟩
 | k + 1 => by
  obtain ⟨kF, ih1⟩ := aJ.dV k
  refine ⟨?_, ?_⟩
  ·intro y0 y1
   unfold aJ.j0
   repeat' first
   | (with_reducible first | exact kF _ _ | exact ih1 _ _ | exact ae.mono _ _ | exact fE.mono _ _ | exact iI.mono _ _ _ _ _ _ _ | exact ak.mono _ _ | exact aU.mono _ _ | exact bz.refl _ | exact bz.none _ | refine bz.ite ?_ ?_ | refine bz.bind ?_ (fun _ => ?_))
  ·intro y0 y1
   unfold aJ.j1
   repeat' first
   | (with_reducible first | exact kF _ _ | exact ih1 _ _ | exact ae.mono _ _ | exact fE.mono _ _ | exact iI.mono _ _ _ _ _ _ _ | exact ak.mono _ _ | exact aU.mono _ _ | exact bz.refl _ | exact bz.none _ | refine bz.ite ?_ ?_ | refine bz.bind ?_ (fun _ => ?_))
theorem aJ.mono : ∀ a0 k, bz (aJ.f k a0) (aJ.f (k + 1) a0) := by
 intro a0 k
 obtain ⟨kF, ih1⟩ := aJ.dV k
 unfold aJ.f
 repeat' first
   | (with_reducible first | exact kF _ _ | exact ih1 _ _ | exact ae.mono _ _ | exact fE.mono _ _ | exact iI.mono _ _ _ _ _ _ _ | exact ak.mono _ _ | exact aU.mono _ _ | exact bz.refl _ | exact bz.none _ | refine bz.ite ?_ ?_ | refine bz.bind ?_ (fun _ => ?_))
mutual
def aH.j0 : Nat → List (iR) → List ByteArray → Bool → Option ((List (iR)) × Bool)
 | 0, _, _, _ => none
 | k + 1, x4, x5, x19 => if x19 = true then (some (x4, false)) else (aH.l0 k x4 x5 0)
def aH.l0 : Nat → List (iR) → List ByteArray → Int → Option ((List (iR)) × Bool)
 | 0, _, _, _ => none
 | k + 1, x4, x5, x6 => if x6 < (x5.length : Int) then (if 0 ≤ x6 then ((aJ.f k (iE ByteArray.empty x5 x6)).bind fun X7 => (if X7.2.2 = true then (if x4.length < 4398046511104 then (aH.l0 k (x4 ++ [(⟨X7.1, X7.2.1⟩ : iR)]) x5 (wrap64 (x6 + 1))) else (none)) else (some ((([] : List (iR))), false)))) else (none)) else (some (x4, true))
end
def aH.f (k : Nat) (a0 : ByteArray) : Option ((List (iR)) × Bool) := (some (([] : List (iR)) : List (iR))).bind fun Hu => ((aj.f k a0).bind fun rP => (if (a0.size : Int) > 200 then (aH.j0 k Hu rP true) else (aH.j0 k Hu rP (decide ((rP.length : Int) > 8)))))
theorem aH.dV : ∀ k, (∀ y0 y1 y2, bz (aH.j0 k y0 y1 y2) (aH.j0 (k + 1) y0 y1 y2)) ∧ (∀ y0 y1 y2, bz (aH.l0 k y0 y1 y2) (aH.l0 (k + 1) y0 y1 y2))
 | 0 => ⟨fun _ _ _ r h => by simp [aH.j0] at h, fun _ _ _ r h => by simp [aH.l0] at h⟩
 | k + 1 => by
  obtain ⟨kF, ih1⟩ := aH.dV k
  refine ⟨?_, ?_⟩
  ·intro y0 y1 y2
   unfold aH.j0
   repeat' first
   | (with_reducible first | exact kF _ _ _ | exact ih1 _ _ _ | exact aJ.mono _ _ | exact aj.mono _ _ | exact bz.refl _ | exact bz.none _ | refine bz.ite ?_ ?_ | refine bz.bind ?_ (fun _ => ?_))
  ·intro y0 y1 y2
   unfold aH.l0
   repeat' first
   | (with_reducible first | exact kF _ _ _ | exact ih1 _ _ _ | exact aJ.mono _ _ | exact aj.mono _ _ | exact bz.refl _ | exact bz.none _ | refine bz.ite ?_ ?_ | refine bz.bind ?_ (fun _ => ?_))
theorem aH.mono : ∀ a0 k, bz (aH.f k a0) (aH.f (k + 1) a0) := by
 intro a0 k
 obtain ⟨kF, ih1⟩ := aH.dV k
 unfold aH.f
 repeat' first
   | (with_reducible first | exact kF _ _ _ | exact ih1 _ _ _ | exact aJ.mono _ _ | exact aj.mono _ _ | exact bz.refl _ | exact bz.none _ | refine bz.ite ?_ ?_ | refine bz.bind ?_ (fun _ => ?_))
def aG (w0 W : World) (g : Nat) (f0 : List Int) (f1 : Int) (f2 : Int) : Prop := ∃ A0 c0, W.heap[g]? = some (.cells #[.slice A0 f0.length c0, .int .i64 f1, .int .i64 f2] 104 (0, 0)) ∧ w0.heap.size ≤ g ∧ Kd.C (Kd.int .u8) w0 A0 f0.length f0
theorem aG.grown {w0 W : World} {g : Nat} {f0 : List Int} {f1 : Int} {f2 : Int} {W1 : World} {row : Option Nat} (h : aG w0 W g f0 f1 f2) (hw : W.grownBy W1 row) (hne : some g ≠ row) : aG w0 W1 g f0 f1 f2 := by
 obtain ⟨A0, c0, hb, hg, hr0⟩ := h
 exact ⟨A0, c0, nz hb hw hne, hg, hr0⟩
theorem aG.kept {w0 W : World} {g : Nat} {f0 : List Int} {f1 : Int} {f2 : Int} {W1 : World} {S : Nat → Prop} (h : aG w0 W g f0 f1 f2) (hk : Kept W W1 S) (hne : ¬ S g) : aG w0 W1 g f0 f1 f2 := by
 obtain ⟨A0, c0, hb, hg, hr0⟩ := h
 exact ⟨A0, c0, X8 hb hk hne, hg, hr0⟩
theorem aG.below {w0 W : World} {g : Nat} {f0 : List Int} {f1 : Int} {f2 : Int} {W1 : World} (h : aG w0 W g f0 f1 f2) (hw : Below W.heap.size W W1) : aG w0 W1 g f0 f1 f2 := h.grown (zG hw none) (by simp)
theorem aG.alloc {w0 W : World} {g : Nat} {f0 : List Int} {f1 : Int} {f2 : Int} (h : aG w0 W g f0 f1 f2) (o : Obj) : aG w0 (W.alloc o) g f0 f1 f2 := h.below (dP (Below.refl _ _) o)
theorem aG.drewN {w0 W : World} {g : Nat} {f0 : List Int} {f1 : Int} {f2 : Int} (h : aG w0 W g f0 f1 f2) (m : Nat) : aG w0 (W.drewN m) g f0 f1 f2 := h
theorem aG.drew {w0 W : World} {g : Nat} {f0 : List Int} {f1 : Int} {f2 : Int} (h : aG w0 W g f0 f1 f2) : aG w0 W.drew g f0 f1 f2 := h
theorem aG.at_ {w0 W : World} {g : Nat} {f0 : List Int} {f1 : Int} {f2 : Int} {w' : World} {m : Nat} (hq : W.drewN m = w') (h : aG w0 W g f0 f1 f2) : aG w0 w' g f0 f1 f2 := by subst hq; exact aG.drewN h m
theorem aG.apart {w0 W : World} {g : Nat} {f0 : List Int} {f1 : Int} {f2 : Int} {α : Type} {d : Kd α} {e : Nat} {base : Nat} {ok : Nat → Prop} {v : Value} {xs : List α} (h : aG w0 W g f0 f1 f2) (ho : d.R e W base ok v xs) (ht : ∀ q, q ∈ e :: d.E → q ≠ 104) : d.R e W base (fun k => ok k ∧ k ≠ g) v xs := by
 obtain ⟨A0, c0, hb, hg, hr0⟩ := h
 exact Kd.iQ ho hb ht
theorem aG.own_ne {w0 W : World} {g : Nat} {f0 : List Int} {f1 : Int} {f2 : Int} {α : Type} {d : Kd α} {e : Nat} {base : Nat} {ok : Nat → Prop} {v : Value} {xs : List α} (h : aG w0 W g f0 f1 f2) (ho : d.R e W base ok v xs) (ht : e ≠ 104) : some g ≠ v.ownBlock := by
 obtain ⟨A0, c0, hb, hg, hr0⟩ := h
 exact Kd.Bl ho hb ht
theorem aG.lt {w0 W : World} {g : Nat} {f0 : List Int} {f1 : Int} {f2 : Int} (h : aG w0 W g f0 f1 f2) : g < W.heap.size := by
 obtain ⟨A0, c0, hb, hg, hr0⟩ := h
 exact lZ hb
theorem aG.ge {w0 W : World} {g : Nat} {f0 : List Int} {f1 : Int} {f2 : Int} (h : aG w0 W g f0 f1 f2) : w0.heap.size ≤ g := by
 obtain ⟨A0, c0, hb, hg, hr0⟩ := h
 exact hg
theorem aG.far {w0 W : World} {g : Nat} {f0 : List Int} {f1 : Int} {f2 : Int} {p : Addr} (h : aG w0 W g f0 f1 f2) (hne : g ≠ p.block) (u : Value) : aG w0 (W.setCell p u) g f0 f1 f2 := by
 obtain ⟨A0, c0, hb, hg, hr0⟩ := h
 exact ⟨A0, c0, oh hb hne u, hg, hr0⟩
theorem Hw {W : World} {g : Nat} {A0 : Option Addr} {c0 : Nat} {f0 : List Int} {f1 : Int} {f2 : Int} (h : W.heap[g]? = some (.cells #[.slice A0 f0.length c0, .int .i64 f1, .int .i64 f2] 104 (0, 0))) : W.cell? ⟨g, 0, none⟩ = some (.slice A0 f0.length c0) := (fA h 0).trans rfl
theorem Hy {W : World} {g : Nat} {A0 : Option Addr} {c0 : Nat} {f0 : List Int} {f1 : Int} {f2 : Int} (h : W.heap[g]? = some (.cells #[.slice A0 f0.length c0, .int .i64 f1, .int .i64 f2] 104 (0, 0))) : W.cell? ⟨g, 1, none⟩ = some (.int .i64 f1) := (fA h 1).trans rfl
theorem aG.Fa {w0 W : World} {g : Nat} {f0 : List Int} {f1 : Int} {f2 : Int} (h : aG w0 W g f0 f1 f2) (x : Int) : aG w0 (W.setCell ⟨g, 1, none⟩ (.int .i64 x)) g f0 x f2 := by
 obtain ⟨A0, c0, hb, hg, hr0⟩ := h
 exact ⟨A0, c0, by simpa using Gy hb 1 (.int .i64 x), hg, hr0⟩
theorem Hz {W : World} {g : Nat} {A0 : Option Addr} {c0 : Nat} {f0 : List Int} {f1 : Int} {f2 : Int} (h : W.heap[g]? = some (.cells #[.slice A0 f0.length c0, .int .i64 f1, .int .i64 f2] 104 (0, 0))) : W.cell? ⟨g, 2, none⟩ = some (.int .i64 f2) := (fA h 2).trans rfl
theorem aG.Fb {w0 W : World} {g : Nat} {f0 : List Int} {f1 : Int} {f2 : Int} (h : aG w0 W g f0 f1 f2) (x : Int) : aG w0 (W.setCell ⟨g, 2, none⟩ (.int .i64 x)) g f0 f1 x := by
 obtain ⟨A0, c0, hb, hg, hr0⟩ := h
 exact ⟨A0, c0, by simpa using Gy hb 2 (.int .i64 x), hg, hr0⟩
def gW.f (ax : List Int) (gX : Int) (gu : Int) : Option (Int × Int × Int) := if gX < (ax.length : Int) then (if 0 ≤ gX then (some (Go.bits .and .i64 (wrap64 ((Go.bits .and .i64 (Go.bits .xor .i64 ((wrap64 ((wrap64 (gu * 6364136223846793005)) + 1442695040888963407)) / 8589934592) ((wrap64 ((wrap64 (gu * 6364136223846793005)) + 1442695040888963407)) / 35184372088832)) 255) + (wrap64 (rd ax gX)))) 255, wrap64 (gX + 1), wrap64 ((wrap64 (gu * 6364136223846793005)) + 1442695040888963407))) else (none)) else (some (Go.bits .and .i64 (Go.bits .xor .i64 ((wrap64 ((wrap64 (gu * 6364136223846793005)) + 1442695040888963407)) / 8589934592) ((wrap64 ((wrap64 (gu * 6364136223846793005)) + 1442695040888963407)) / 35184372088832)) 255, gX, wrap64 ((wrap64 (gu * 6364136223846793005)) + 1442695040888963407)))
def az.f (ax : List Int) (gX : Int) (gu : Int) (a1 : Int) : Option (Int × Int × Int) := if a1 ≤ 0 then (some (0, gX, gu)) else (if a1 ≤ 256 then ((gW.f ax gX gu).bind fun IA => (if a1 = 0 then (none) else (some (Int.tmod IA.1 a1, IA.2.1, IA.2.2)))) else ((gW.f ax gX gu).bind fun IB => ((gW.f ax IB.2.1 IB.2.2).bind fun IC => ((gW.f ax IC.2.1 IC.2.2).bind fun IE => ((gW.f ax IE.2.1 IE.2.2).bind fun IG => (if a1 = 0 then (none) else (some (Int.tmod (wrap64 ((wrap64 ((wrap64 ((wrap64 (IB.1 * 16777216)) + (wrap64 (IC.1 * 65536)))) + (wrap64 (IE.1 * 256)))) + IG.1)) a1, IG.2.1, IG.2.2))))))))
def fQ.f (ax : List Int) (gX : Int) (gu : Int) (a1 : Int) : Option (Bool × Int × Int) := (az.f ax gX gu a1).bind fun II => (some ((II.1 == 0), II.2.1, II.2.2))
def cO.f (ax : List Int) (gX : Int) (gu : Int) (l1 : List ByteArray) : Option (ByteArray × Int × Int) := (az.f ax gX gu (l1.length : Int)).bind fun zH => (if 0 ≤ zH.1 then (if zH.1 < (l1.length : Int) then (some (iE ByteArray.empty l1 zH.1, zH.2.1, zH.2.2)) else (none)) else (none))
def di.f (ax : List Int) (gX : Int) (gu : Int) (l1 : List Int) : Option (Int × Int × Int) := (az.f ax gX gu (l1.length : Int)).bind fun zI => (if 0 ≤ zI.1 then (if zI.1 < (l1.length : Int) then (some (rd l1 zI.1, zI.2.1, zI.2.2)) else (none)) else (none))
def aV.j0 : Nat → List Int → Int → Int → Int → Int → Int → List ByteArray → Option (Int × Int × Int × List ByteArray × Int × Int)
 | 0, _, _, _, _, _, _, _ => none
 | k + 1, x1000, yg, yh, DT, Gz, DU, HY => (az.f x1000 yg yh 24).bind fun zJ => (if zJ.1 = 0 then ((di.f x1000 zJ.2.1 zJ.2.2 (([(-1), 999999999, 1000000000] : List Int))).bind fun X9 => (some (DT, X9.1, DU, HY, X9.2.1, X9.2.2))) else (if zJ.1 = 1 then ((cO.f x1000 zJ.2.1 zJ.2.2 (([(⟨#[]⟩ : ByteArray), (⟨#[48, 49]⟩ : ByteArray), (⟨#[97, 95, 98]⟩ : ByteArray), (⟨#[49, 48, 48, 48, 48, 48, 48, 48, 48, 48]⟩ : ByteArray), (⟨#[97, 98, 99, 100, 101, 102, 103, 104, 105, 106, 107, 108, 109, 110, 111, 112, 113, 114, 115, 116]⟩ : ByteArray), (⟨#[97, 98, 99, 100, 101, 102, 103, 104, 105, 106, 107, 108, 109, 110, 111, 112, 113, 114, 115, 116, 117]⟩ : ByteArray)] : List ByteArray))).bind fun Xa => (if HY.length < 8796093022208 then (some (DT, Gz, DU, (HY ++ [Xa.1]), Xa.2.1, Xa.2.2)) else (none))) else (if zJ.1 = 2 then ((some (([(⟨#[97]⟩ : ByteArray), (⟨#[98]⟩ : ByteArray), (⟨#[99]⟩ : ByteArray), (⟨#[100]⟩ : ByteArray), (⟨#[101]⟩ : ByteArray)] : List ByteArray) : List ByteArray)).bind fun uy => ((fQ.f x1000 zJ.2.1 zJ.2.2 2).bind fun zK => (if zK.1 = true then (if uy.length < 8796093022208 then (some (DT, Gz, DU, (uy ++ [(⟨#[102]⟩ : ByteArray)]), zK.2.1, zK.2.2)) else (none)) else (some (DT, Gz, DU, uy, zK.2.1, zK.2.2))))) else (some (DT, Gz, DU, HY, zJ.2.1, zJ.2.2)))))
def aV.f (k : Nat) (ax : List Int) (gX : Int) (gu : Int) : Option (Int × Int × Int × List ByteArray × Int × Int) := (di.f ax gX gu (([0, 1, 1, 2, 10] : List Int))).bind fun zL => ((di.f ax zL.2.1 zL.2.2 (([0, 0, 1, 2, 12] : List Int))).bind fun zM => ((di.f ax zM.2.1 zM.2.2 (([0, 0, 1, 3, 9] : List Int))).bind fun zN => ((fQ.f ax zN.2.1 zN.2.2 4).bind fun zO => (if zO.1 = true then ((cO.f ax zO.2.1 zO.2.2 (([(⟨#[114, 99]⟩ : ByteArray), (⟨#[98, 101, 116, 97]⟩ : ByteArray), (⟨#[49]⟩ : ByteArray), (⟨#[48]⟩ : ByteArray), (⟨#[120, 45, 121]⟩ : ByteArray)] : List ByteArray))).bind fun IJ => ((some (([IJ.1] : List ByteArray) : List ByteArray)).bind fun oq => ((fQ.f ax IJ.2.1 IJ.2.2 2).bind fun sU => (if sU.1 = true then ((cO.f ax sU.2.1 sU.2.2 (([(⟨#[49]⟩ : ByteArray), (⟨#[50]⟩ : ByteArray), (⟨#[49, 48]⟩ : ByteArray), (⟨#[97]⟩ : ByteArray)] : List ByteArray))).bind fun zQ => (if oq.length < 8796093022208 then (aV.j0 k ax zQ.2.1 zQ.2.2 zL.1 zM.1 zN.1 (oq ++ [zQ.1])) else (none))) else (aV.j0 k ax sU.2.1 sU.2.2 zL.1 zM.1 zN.1 oq))))) else (aV.j0 k ax zO.2.1 zO.2.2 zL.1 zM.1 zN.1 ([] : List ByteArray))))))
theorem aV.dV : ∀ k, (∀ y0 y1 y2 y3 y4 y5 y6, bz (aV.j0 k y0 y1 y2 y3 y4 y5 y6) (aV.j0 (k + 1) y0 y1 y2 y3 y4 y5 y6))
 | 0 => fun _ _ _ _ _ _ _ r h => by simp [aV.j0] at h
 | k + 1 => by
  have kF := aV.dV k
  ·intro y0 y1 y2 y3 y4 y5 y6
   unfold aV.j0
   repeat' first
   | (with_reducible first | exact kF _ _ _ _ _ _ _ | exact bz.refl _ | exact bz.none _ | refine bz.ite ?_ ?_ | refine bz.bind ?_ (fun _ => ?_))
theorem aV.mono : ∀ a0 a1 a2 k, bz (aV.f k a0 a1 a2) (aV.f (k + 1) a0 a1 a2) := by
 intro a0 a1 a2 k
 have kF := aV.dV k
 unfold aV.f
 repeat' first
   | (with_reducible first | exact kF _ _ _ _ _ _ _ | exact bz.refl _ | exact bz.none _ | refine bz.ite ?_ ?_ | refine bz.bind ?_ (fun _ => ?_))
def bY.f (k : Nat) (ax : List Int) (gX : Int) (gu : Int) : Option (ByteArray × Int × Int) := (aV.f k ax gX gu).bind fun sV => ((au.f k sV.1 sV.2.1 sV.2.2.1 sV.2.2.2.1).bind fun Eh => (if Eh.toList = ([] : List UInt8) then (some ((⟨#[49, 46, 48, 46, 48]⟩ : ByteArray), sV.2.2.2.2.1, sV.2.2.2.2.2)) else (some (Eh, sV.2.2.2.2.1, sV.2.2.2.2.2))))
theorem bY.mono : ∀ a0 a1 a2 k, bz (bY.f k a0 a1 a2) (bY.f (k + 1) a0 a1 a2) := by
 intro a0 a1 a2 k
 unfold bY.f
 repeat' first
   | (with_reducible first | exact au.mono _ _ _ _ _ | exact aV.mono _ _ _ _ | exact bz.refl _ | exact bz.none _ | refine bz.ite ?_ ?_ | refine bz.bind ?_ (fun _ => ?_))
mutual
def aN.j0 : Nat → ByteArray → Int → List Int → Int → Int → Option (ByteArray × Int × Int)
 | 0, _, _, _, _, _ => none
 | k + 1, x3, x4, x1000, yg, yh => aN.l0 k x3 x4 0 x1000 yg yh
def aN.l0 : Nat → ByteArray → Int → Int → List Int → Int → Int → Option (ByteArray × Int × Int)
 | 0, _, _, _, _, _, _ => none
 | k + 1, x3, x4, x5, x1000, yg, yh => if x5 < x4 then (if x5 > 0 then (if x3.size + 4 ≤ 9223372036854775807 then (aN.j2 k (x3 ++ (⟨#[32, 124, 124, 32]⟩ : ByteArray)) x4 x5 x1000 yg yh) else (none)) else (aN.j2 k x3 x4 x5 x1000 yg yh)) else (some (x3, yg, yh))
def aN.j2 : Nat → ByteArray → Int → Int → List Int → Int → Int → Option (ByteArray × Int × Int)
 | 0, _, _, _, _, _, _ => none
 | k + 1, x3, x4, x5, x1000, yg, yh => (az.f x1000 yg yh 8).bind fun qY => (if qY.1 = 0 then (if x3.size + 1 ≤ 9223372036854775807 then (aN.l0 k (x3 ++ (⟨#[42]⟩ : ByteArray)) x4 (wrap64 (x5 + 1)) x1000 qY.2.1 qY.2.2) else (none)) else (if qY.1 = 1 then (if x3.size + 1 ≤ 9223372036854775807 then ((bY.f k x1000 qY.2.1 qY.2.2).bind fun DV => (if (x3 ++ (⟨#[94]⟩ : ByteArray)).size + DV.1.size ≤ 9223372036854775807 then (aN.l0 k ((x3 ++ (⟨#[94]⟩ : ByteArray)) ++ DV.1) x4 (wrap64 (x5 + 1)) x1000 DV.2.1 DV.2.2) else (none))) else (none)) else (if qY.1 = 2 then (if x3.size + 1 ≤ 9223372036854775807 then ((bY.f k x1000 qY.2.1 qY.2.2).bind fun DW => (if (x3 ++ (⟨#[126]⟩ : ByteArray)).size + DW.1.size ≤ 9223372036854775807 then (aN.l0 k ((x3 ++ (⟨#[126]⟩ : ByteArray)) ++ DW.1) x4 (wrap64 (x5 + 1)) x1000 DW.2.1 DW.2.2) else (none))) else (none)) else (if qY.1 = 3 then (if x3.size + 2 ≤ 9223372036854775807 then ((bY.f k x1000 qY.2.1 qY.2.2).bind fun DX => (if (x3 ++ (⟨#[62, 61]⟩ : ByteArray)).size + DX.1.size ≤ 9223372036854775807 then (aN.l0 k ((x3 ++ (⟨#[62, 61]⟩ : ByteArray)) ++ DX.1) x4 (wrap64 (x5 + 1)) x1000 DX.2.1 DX.2.2) else (none))) else (none)) else (if qY.1 = 4 then (if x3.size + 2 ≤ 9223372036854775807 then ((bY.f k x1000 qY.2.1 qY.2.2).bind fun xB => (if (x3 ++ (⟨#[62, 61]⟩ : ByteArray)).size + xB.1.size ≤ 9223372036854775807 then (if ((x3 ++ (⟨#[62, 61]⟩ : ByteArray)) ++ xB.1).size + 2 ≤ 9223372036854775807 then ((bY.f k x1000 xB.2.1 xB.2.2).bind fun qp => (if (((x3 ++ (⟨#[62, 61]⟩ : ByteArray)) ++ xB.1) ++ (⟨#[32, 60]⟩ : ByteArray)).size + qp.1.size ≤ 9223372036854775807 then (aN.l0 k ((((x3 ++ (⟨#[62, 61]⟩ : ByteArray)) ++ xB.1) ++ (⟨#[32, 60]⟩ : ByteArray)) ++ qp.1) x4 (wrap64 (x5 + 1)) x1000 qp.2.1 qp.2.2) else (none))) else (none)) else (none))) else (none)) else (if qY.1 = 5 then ((cO.f x1000 qY.2.1 qY.2.2 (([(⟨#[49]⟩ : ByteArray), (⟨#[49, 46, 50]⟩ : ByteArray), (⟨#[48]⟩ : ByteArray), (⟨#[48, 46, 48]⟩ : ByteArray), (⟨#[60, 50, 46, 48, 46, 48]⟩ : ByteArray), (⟨#[48, 49]⟩ : ByteArray), (⟨#[49, 46]⟩ : ByteArray), (⟨#[57, 57, 57, 57, 57, 57, 57, 57, 57]⟩ : ByteArray), (⟨#[94, 57, 57, 57, 57, 57, 57, 57, 57, 57, 46, 48, 46, 48]⟩ : ByteArray)] : List ByteArray))).bind fun Tm => (if x3.size + Tm.1.size ≤ 9223372036854775807 then (aN.l0 k (x3 ++ Tm.1) x4 (wrap64 (x5 + 1)) x1000 Tm.2.1 Tm.2.2) else (none))) else ((bY.f k x1000 qY.2.1 qY.2.2).bind fun Tn => (if x3.size + Tn.1.size ≤ 9223372036854775807 then (aN.l0 k (x3 ++ Tn.1) x4 (wrap64 (x5 + 1)) x1000 Tn.2.1 Tn.2.2) else (none)))))))))
end
def aN.f (k : Nat) (ax : List Int) (gX : Int) (gu : Int) : Option (ByteArray × Int × Int) := (az.f ax gX gu 3).bind fun IK => ((fQ.f ax IK.2.1 IK.2.2 16).bind fun zS => (if zS.1 = true then ((az.f ax zS.2.1 zS.2.2 2).bind fun IL => (aN.j0 k (⟨#[]⟩ : ByteArray) (wrap64 (8 + IL.1)) ax IL.2.1 IL.2.2)) else (aN.j0 k (⟨#[]⟩ : ByteArray) (wrap64 (1 + IK.1)) ax zS.2.1 zS.2.2)))
theorem aN.dV : ∀ k, (∀ y0 y1 y2 y3 y4, bz (aN.j0 k y0 y1 y2 y3 y4) (aN.j0 (k + 1) y0 y1 y2 y3 y4)) ∧ (∀ y0 y1 y2 y3 y4 y5, bz (aN.l0 k y0 y1 y2 y3 y4 y5) (aN.l0 (k + 1) y0 y1 y2 y3 y4 y5)) ∧ (∀ y0 y1 y2 y3 y4 y5, bz (aN.j2 k y0 y1 y2 y3 y4 y5) (aN.j2 (k + 1) y0 y1 y2 y3 y4 y5))
 | 0 => ⟨fun _ _ _ _ _ r h => by simp [aN.j0] at h, fun _ _ _ _ _ _ r h => by simp [aN.l0] at h, fun _ _ _ _ _ _ r h => by simp [aN.j2] at h⟩
 | k + 1 => by
  obtain ⟨kF, ih1, ih2⟩ := aN.dV k
  refine ⟨?_, ?_, ?_⟩
  ·intro y0 y1 y2 y3 y4
   unfold aN.j0
   repeat' first
   | (with_reducible first | exact kF _ _ _ _ _ | exact ih1 _ _ _ _ _ _ | exact ih2 _ _ _ _ _ _ | exact bY.mono _ _ _ _ | exact bz.refl _ | exact bz.none _ | refine bz.ite ?_ ?_ | refine bz.bind ?_ (fun _ => ?_))
  ·intro y0 y1 y2 y3 y4 y5
   unfold aN.l0
   repeat' first
   | (with_reducible first | exact kF _ _ _ _ _ | exact ih1 _ _ _ _ _ _ | exact ih2 _ _ _ _ _ _ | exact bY.mono _ _ _ _ | exact bz.refl _ | exact bz.none _ | refine bz.ite ?_ ?_ | refine bz.bind ?_ (fun _ => ?_))
  ·intro y0 y1 y2 y3 y4 y5
   unfold aN.j2
   repeat' first
   | (with_reducible first | exact kF _ _ _ _ _ | exact ih1 _ _ _ _ _ _ | exact ih2 _ _ _ _ _ _ | exact bY.mono _ _ _ _ | exact bz.refl _ | exact bz.none _ | refine bz.ite ?_ ?_ | refine bz.bind ?_ (fun _ => ?_))
theorem aN.mono : ∀ a0 a1 a2 k, bz (aN.f k a0 a1 a2) (aN.f (k + 1) a0 a1 a2) := by
 intro a0 a1 a2 k
 obtain ⟨kF, ih1, ih2⟩ := aN.dV k
 unfold aN.f
 repeat' first
   | (with_reducible first | exact kF _ _ _ _ _ | exact ih1 _ _ _ _ _ _ | exact ih2 _ _ _ _ _ _ | exact bY.mono _ _ _ _ | exact bz.refl _ | exact bz.none _ | refine bz.ite ?_ ?_ | refine bz.bind ?_ (fun _ => ?_))
def bg.j0 : Nat → List (iR) → Bool → List Int → Int → Int → Option ((List (iR)) × Int × Int)
 | 0, _, _, _, _, _ => none
 | k + 1, x3, x17, x1000, yg, yh => if x17 = true then ((az.f x1000 yg yh (x3.length : Int)).bind fun KA => ((cO.f x1000 KA.2.1 KA.2.2 (([(⟨#[120]⟩ : ByteArray), (⟨#[49]⟩ : ByteArray), (⟨#[]⟩ : ByteArray), (⟨#[49, 46, 48, 46, 48, 45]⟩ : ByteArray)] : List ByteArray))).bind fun Xb => (if 0 ≤ KA.1 then (if KA.1 < (x3.length : Int) then (some ((x3.set (KA.1 : Int).toNat (⟨Xb.1, (dS x3 KA.1).f1⟩ : iR)), Xb.2.1, Xb.2.2)) else (none)) else (none)))) else (some (x3, yg, yh))
def bg.f (k : Nat) (ax : List Int) (gX : Int) (gu : Int) : Option ((List (iR)) × Int × Int) := (aN.f k ax gX gu).bind fun zT => ((aH.f k zT.1).bind fun IP => (if (IP.1.length : Int) > 0 then ((fQ.f ax zT.2.1 zT.2.2 12).bind fun IQ => (bg.j0 k IP.1 IQ.1 ax IQ.2.1 IQ.2.2)) else (bg.j0 k IP.1 false ax zT.2.1 zT.2.2)))
theorem bg.dV : ∀ k, (∀ y0 y1 y2 y3 y4, bz (bg.j0 k y0 y1 y2 y3 y4) (bg.j0 (k + 1) y0 y1 y2 y3 y4))
 | 0 => fun _ _ _ _ _ r h => by simp [bg.j0] at h
 | k + 1 => by
  have kF := bg.dV k
  ·intro y0 y1 y2 y3 y4
   unfold bg.j0
   repeat' first
   | (with_reducible first | exact kF _ _ _ _ _ | exact aH.mono _ _ | exact aN.mono _ _ _ _ | exact bz.refl _ | exact bz.none _ | refine bz.ite ?_ ?_ | refine bz.bind ?_ (fun _ => ?_))
theorem bg.mono : ∀ a0 a1 a2 k, bz (bg.f k a0 a1 a2) (bg.f (k + 1) a0 a1 a2) := by
 intro a0 a1 a2 k
 have kF := bg.dV k
 unfold bg.f
 repeat' first
   | (with_reducible first | exact kF _ _ _ _ _ | exact aH.mono _ _ | exact aN.mono _ _ _ _ | exact bz.refl _ | exact bz.none _ | refine bz.ite ?_ ?_ | refine bz.bind ?_ (fun _ => ?_))
def bu.l0 : Nat → List Int → Int → Int → Option (List Int × Int × Int)
 | 0, _, _, _ => none
 | k + 1, x0, x3, x4 => if x4 < (x0.length : Int) then (if x4 < 4000 then (if 0 ≤ x4 then (bu.l0 k x0 (Go.bits .and .i64 (wrap64 ((wrap64 ((wrap64 (x3 * 131)) + (wrap64 (rd x0 x4)))) + 7)) 1073741823) (wrap64 (x4 + 1))) else (none)) else (some (x0, 0, x3))) else (some (x0, 0, x3))
def bu.f (k : Nat) (l0 : List Int) : Option (List Int × Int × Int) := bu.l0 k l0 (wrap64 (445445 + (l0.length : Int))) 0
theorem bu.dV : ∀ k, (∀ y0 y1 y2, bz (bu.l0 k y0 y1 y2) (bu.l0 (k + 1) y0 y1 y2))
 | 0 => fun _ _ _ r h => by simp [bu.l0] at h
 | k + 1 => by
  have kF := bu.dV k
  ·intro y0 y1 y2
   unfold bu.l0
   repeat' first
   | (with_reducible first | exact kF _ _ _ | exact bz.refl _ | exact bz.none _ | refine bz.ite ?_ ?_ | refine bz.bind ?_ (fun _ => ?_))
theorem bu.mono : ∀ a0 k, bz (bu.f k a0) (bu.f (k + 1) a0) := by
 intro a0 k
 have kF := bu.dV k
 unfold bu.f
 repeat' first
   | (with_reducible first | exact kF _ _ _ | exact bz.refl _ | exact bz.none _ | refine bz.ite ?_ ?_ | refine bz.bind ?_ (fun _ => ?_))
def dL.f (k : Nat) (l0 : List Int) : Option ((List (iR))) := (bu.f k l0).bind fun IU => ((bg.f k IU.1 IU.2.1 IU.2.2).bind fun Xc => (some Xc.1))
theorem dL.mono : ∀ a0 k, bz (dL.f k a0) (dL.f (k + 1) a0) := by
 intro a0 k
 unfold dL.f
 repeat' first
   | (with_reducible first | exact bu.mono _ _ | exact bg.mono _ _ _ _ | exact bz.refl _ | exact bz.none _ | refine bz.ite ?_ ?_ | refine bz.bind ?_ (fun _ => ?_))
def dB.f (k : Nat) (l0 : List Int) : Option ((List (iR))) := (bu.f k l0).bind fun IV => ((bg.f k IV.1 IV.2.1 IV.2.2).bind fun Xd => (some Xd.1))
theorem dB.mono : ∀ a0 k, bz (dB.f k a0) (dB.f (k + 1) a0) := by
 intro a0 k
 unfold dB.f
 repeat' first
   | (with_reducible first | exact bu.mono _ _ | exact bg.mono _ _ _ _ | exact bz.refl _ | exact bz.none _ | refine bz.ite ?_ ?_ | refine bz.bind ?_ (fun _ => ?_))
def iJ.f (a0 : Int) (a1 : Int) (a2 : Int) : Option (Bool) := if a1 ≤ a0 then (some (decide (a0 ≤ a2))) else (some false)
set_option maxHeartbeats 8000000 in
set_option maxRecDepth 100000 in
theorem iJ.calls (a0 : Int) (a1 : Int) (a2 : Int) (r : Bool) (w : World) (h : iJ.f a0 a1 a2 = some r) :
  Calls Tryz.prog 56 #[.int .i64 a0, .int .i64 a1, .int .i64 a2] w fun e w' => e = .returned (.bool r) ∧ kG w w' := by
 have H : (if a1 ≤ a0 then (some (decide (a0 ≤ a2))) else (some false)) = some r := h
 clear h
 by_cases c4 : a1 ≤ a0
 ·rw [if_pos c4] at H
  have DY : decide (a1 ≤ a0) = true := decide_eq_true c4
  clear c4
  obtain rfl := Option.some.inj H
  go_enter Tryz.func56, Tryz.ntmps56
  go_wp2
  go_ret
  exact ⟨by first | rfl | (simp; done) | (simp [*]; done) | (simp; exact IW _), by repeat (first | exact kG.refl _ | apply kG.step)⟩
 ·rw [if_neg c4] at H
  have DY : decide (a1 ≤ a0) = false := decide_eq_false c4
  clear c4
  obtain rfl := Option.some.inj H
  go_enter Tryz.func56, Tryz.ntmps56
  go_wp2
  go_ret
  exact ⟨by first | rfl | (simp; done) | (simp [*]; done) | (simp; exact IW _), by repeat (first | exact kG.refl _ | apply kG.step)⟩
def strings_Split.f (a0 : ByteArray) (a1 : ByteArray) : Option (List ByteArray) := if a0.size < 4294967281 ∧ 1 ≤ a1.size then some (Lib.splitB a1 0 (Lib.countB a0 a1) a0) else none
theorem strings_Split.calls (a0 : ByteArray) (a1 : ByteArray) (r : List ByteArray) (w : World) (hGM : cZ jU w) (h : strings_Split.f a0 a1 = some r) :
  Calls Tryz.prog 47 #[.string a0, .string a1] w fun e w' => ∃ KC : Value, e = .returned (KC) ∧ Kd.R Kd.string 9 w' w.heap.size (fun _ => True) KC r ∧ Below w.heap.size w w' := by
 unfold strings_Split.f at h
 by_cases hc : a0.size < 4294967281 ∧ 1 ≤ a1.size
 ·rw [if_pos hc] at h
  obtain rfl := Option.some.inj h
  obtain ⟨m, hm⟩ := jU.here hGM
  have hl : (Lib.splitB a1 0 (Lib.countB a0 a1) a0).length = Lib.countB a0 a1 + 1 := Lib.splitB_all a1 hc.2 0 _ a0 rfl
  have hn : Lib.countB a0 a1 ≤ a0.size := Lib.countB_le a1 hc.2 a0.size a0 (Nat.le_refl _)
  refine (Tryz.strings_Split a0 a1 m w hc.1 hm hc.2).mono fun e w' ⟨h1, h2⟩ => ⟨_, h1, ?_, ?_⟩
  ·rw [h2]
   refine Kd.DZ ?_ (fun _ _ => trivial)
   rw [hl]
   refine ⟨by rw [encs, List.length_map, hl]; omega, Or.inr ⟨w.heap.size, _, _, rfl, Nat.le_refl _, heap_alloc_new w _, Nat.le_refl _, by unfold maxLen; omega, by rw [List.size_toArray, List.length_map, hl]; omega, ?_⟩⟩
   rw [List.take_of_length_le (by rw [List.length_map, hl]; omega)]
   rfl
  ·rw [h2]; exact (Below.refl _ w).alloc (Nat.le_refl _) _
 ·rw [if_neg hc] at h; cases h
def strings_Cut.f (a0 : ByteArray) (a1 : ByteArray) : Option (ByteArray × ByteArray × Bool) := if a0.size < 4294967281 then some (⟨(Lib.cut a0.data.toList a1.data.toList).1.toArray⟩, ⟨(Lib.cut a0.data.toList a1.data.toList).2.1.toArray⟩, (Lib.cut a0.data.toList a1.data.toList).2.2) else none
theorem strings_Cut.calls (a0 : ByteArray) (a1 : ByteArray) (r1 : ByteArray) (r2 : ByteArray) (r3 : Bool) (w : World) (hGM : cZ jU w) (h : strings_Cut.f a0 a1 = some (r1, r2, r3)) :
  Calls Tryz.prog 94 #[.string a0, .string a1] w fun e w' => e = .returned (.tuple #[.string r1, .string r2, .bool r3]) ∧ kG w w' := by
 unfold strings_Cut.f at h
 by_cases hc : a0.size < 4294967281
 ·rw [if_pos hc] at h
  obtain ⟨rfl, rfl, rfl⟩ := by simpa using h
  obtain ⟨m, hm⟩ := jU.here hGM
  exact (Tryz.strings_Cut a0 a1 m w hc hm).mono fun e w' ⟨h1, h2⟩ => ⟨h1, ⟨h2⟩⟩
 ·rw [if_neg hc] at h; cases h
def strconv_Itoa.f (a0 : Int) : Option ByteArray := if -9223372036854775808 ≤ a0 ∧ a0 ≤ 9223372036854775807 then some ⟨(Lib.itoa a0).toArray⟩ else none
theorem strconv_Itoa.calls (a0 : Int) (r : ByteArray) (w : World) (hGT : cZ jb w) (h : strconv_Itoa.f a0 = some r) :
  Calls Tryz.prog 176 #[.int .i64 a0] w fun e w' => e = .returned (.string r) ∧ Below w.heap.size w w' := by
 unfold strconv_Itoa.f at h
 by_cases hc : -9223372036854775808 ≤ a0 ∧ a0 ≤ 9223372036854775807
 ·rw [if_pos hc] at h
  obtain rfl := Option.some.inj h
  refine (Tryz.strconv_Itoa a0 hc.1 hc.2 w (jb.here hGT)).mono fun e w' ⟨h1, k, os, h2⟩ => ⟨h1, ?_⟩
  rw [h2]; exact Lib.below_grow _ w (Nat.le_refl _) k os
 ·rw [if_neg hc] at h; cases h
def iP.f (a0 : Int) : Option (ByteArray) := (strconv_Itoa.f a0).bind fun V4 => (some V4)
set_option maxHeartbeats 8000000 in
set_option maxRecDepth 100000 in
theorem iP.calls (a0 : Int) (r : ByteArray) (w : World) (hGT : cZ jb w) (h : iP.f a0 = some r) :
  Calls Tryz.prog 140 #[.int .i64 a0] w fun e w' => e = .returned (.string r) ∧ Below w.heap.size w w' := by
 have HB := dC.mk (Below.refl w.heap.size w)
 have ve := dC.mk hGT
 clear hGT
 have H : ((strconv_Itoa.f a0).bind fun V4 => (some V4)) = some r := h
 clear h
 replace H := Option.bind_eq_some_iff.mp H
 obtain ⟨V4, zU, H⟩ := H
 replace H : (some V4) = some r := H
 have A2 := dC.mk zU
 clear zU
 obtain rfl := Option.some.inj H
 go_enter Tryz.func140, Tryz.ntmps140
 go_wp2_with (first | ((with_reducible refine aW (f := 176) rfl ?_); refine dU (some 4) rfl rfl Tryz.func176 (by kernel_rfl) rfl #[.int .i64 a0] rfl (by (try simp only [List.map_toArray, List.map_cons, List.map_nil]); first | done | rfl | (simp only [List.length_drop, List.length_take]; rfl)) ?_; (with_reducible refine (strconv_Itoa.calls a0 V4 _ ?side1 A2.out).mono ?_); (case side1 => exact cZ.below ve.out (by repeat (first | (with_reducible first | exact HB.out | apply dP | apply dJ | apply dQ) | exact HB.out))); rintro e w3 ⟨rfl, hb⟩; refine ⟨_, rfl, ?_⟩; have D5 := dC.mk (bK (by repeat (first | (with_reducible first | exact HB.out | apply dP | apply dJ | apply dQ) | exact HB.out)) hb); clear HB; have HB := D5; clear D5; (try clear hb)))
 go_ret
 exact ⟨by first | rfl | (simp [jv, jw] <;> rfl) | (simp [*, jv, jw] <;> rfl), by repeat (first | (with_reducible first | exact HB.out | apply dP | apply dJ | apply dQ) | exact HB.out)⟩
def dm.f (a0 : ByteArray) : Option Int := if a0.size ≤ 281474976710656 then (match Lib.atoiAll a0.data.toList with | .ok n => (iJ.f n 0 999999999).bind fun t => if t = true then (iP.f n).bind fun s => if s.toList = a0.toList then some n else some (-1) else some (-1) | _ => some (-1)) else none
set_option maxHeartbeats 8000000 in
set_option maxRecDepth 100000 in
theorem dm.calls (a0 : ByteArray) (r : Int) (w : World) (hGE : cZ ji w) (hGT : cZ jb w) (h : dm.f a0 = some r) :
  Calls Tryz.prog 104 #[.string a0] w fun e w' => e = .returned (.int .i64 r) ∧ Below w.heap.size w w' := by
 have HB := dC.mk (Below.refl w.heap.size w)
 have ve := dC.mk hGT
 clear hGT
 unfold dm.f at h
 by_cases hc : a0.size ≤ 281474976710656
 case neg => rw [if_neg hc] at h; cases h
 rw [if_pos hc] at h
 obtain ⟨⟨t1, p1, e1⟩, ⟨t2, p2, e2⟩⟩ := ji.here hGE
 clear hGE
 cases ha : Lib.atoiAll a0.data.toList
 ·rename_i n
  rw [ha] at h
  have C : Calls Tryz.prog 139 #[.string a0] w fun e w' => e = .returned (.tuple #[.int .i64 n, .nilIface]) ∧ Below w.heap.size w w' := by
   refine (Tryz.strconv_Atoi_ok a0 (by omega) n ha w).mono fun e w' ⟨h1, h2⟩ => ⟨h1, ?_⟩
   rcases h2 with rfl | ⟨t, rfl⟩
   ·exact Below.refl _ _
   ·exact Go.Joins.below_bytesWorld _ w _ t (Nat.le_refl _)
  replace C := dC.mk C
  clear ha e1 e2
  have H : ((iJ.f n 0 999999999).bind fun t => if t = true then (iP.f n).bind fun s => if s.toList = a0.toList then some n else some (-1) else some (-1)) = some r := h
  clear h
  replace H := Option.bind_eq_some_iff.mp H
  obtain ⟨tw, Aw0, H⟩ := H
  have Aw := dC.mk Aw0
  clear Aw0
  replace H : (if tw = true then (iP.f n).bind fun s => if s.toList = a0.toList then some n else some (-1) else some (-1)) = some r := H
  cases tw with
  | false =>
   rw [if_neg (by decide)] at H
   obtain rfl := Option.some.inj H
   go_enter Tryz.func104, Tryz.ntmps104
   go_wp2_with (first | (go_at_call 139; (with_reducible refine C.out.mono ?_); rintro e w' ⟨rfl, hb⟩; have D5 := dC.mk (bK (by repeat (first | (with_reducible first | exact HB.out | apply dP | apply dJ | apply dQ) | exact HB.out)) hb); clear HB; have HB := D5; clear D5; (try clear hb)) | (go_at_call 56; (with_reducible refine (iJ.calls n 0 999999999 false _ Aw.out).mono ?_); rintro e w' ⟨rfl, ⟨nd, rfl⟩⟩))
   go_ret
   exact ⟨by first | rfl | (simp; done), by repeat (first | (with_reducible first | exact HB.out | apply dP | apply dJ | apply dQ) | exact HB.out)⟩
  | true =>
   rw [if_pos rfl] at H
   replace H := Option.bind_eq_some_iff.mp H
   obtain ⟨ts, As0, H⟩ := H
   have As := dC.mk As0
   clear As0
   replace H : (if ts.toList = a0.toList then some n else some (-1)) = some r := H
   by_cases c4 : ts.toList = a0.toList
   ·rw [if_pos c4] at H
    have DY : (ts.toList == a0.toList) = true := beq_iff_eq.mpr c4
    have c4b1 : (ts.toList != a0.toList) = false := bne_eq_false_iff_eq.mpr c4
    clear c4
    obtain rfl := Option.some.inj H
    go_enter Tryz.func104, Tryz.ntmps104
    go_wp2_with (first | (go_at_call 139; (with_reducible refine C.out.mono ?_); rintro e w' ⟨rfl, hb⟩; have D5 := dC.mk (bK (by repeat (first | (with_reducible first | exact HB.out | apply dP | apply dJ | apply dQ) | exact HB.out)) hb); clear HB; have HB := D5; clear D5; (try clear hb)) | (go_at_call 56; (with_reducible refine (iJ.calls n 0 999999999 true _ Aw.out).mono ?_); rintro e w' ⟨rfl, ⟨nd, rfl⟩⟩) | (go_at_call 140; (with_reducible refine (iP.calls n ts _ ?side1 As.out).mono ?_); (case side1 => exact cZ.below ve.out (by repeat (first | (with_reducible first | exact HB.out | apply dP | apply dJ | apply dQ) | exact HB.out))); rintro e w3 ⟨rfl, hb⟩; have D5 := dC.mk (bK (by repeat (first | (with_reducible first | exact HB.out | apply dP | apply dJ | apply dQ) | exact HB.out)) hb); clear HB; have HB := D5; clear D5; (try clear hb)))
    go_ret
    exact ⟨by first | rfl | (simp; done), by repeat (first | (with_reducible first | exact HB.out | apply dP | apply dJ | apply dQ) | exact HB.out)⟩
   ·rw [if_neg c4] at H
    have DY : (ts.toList == a0.toList) = false := beq_eq_false_iff_ne.mpr c4
    have c4b1 : (ts.toList != a0.toList) = true := bne_iff_ne.mpr c4
    clear c4
    obtain rfl := Option.some.inj H
    go_enter Tryz.func104, Tryz.ntmps104
    go_wp2_with (first | (go_at_call 139; (with_reducible refine C.out.mono ?_); rintro e w' ⟨rfl, hb⟩; have D5 := dC.mk (bK (by repeat (first | (with_reducible first | exact HB.out | apply dP | apply dJ | apply dQ) | exact HB.out)) hb); clear HB; have HB := D5; clear D5; (try clear hb)) | (go_at_call 56; (with_reducible refine (iJ.calls n 0 999999999 true _ Aw.out).mono ?_); rintro e w' ⟨rfl, ⟨nd, rfl⟩⟩) | (go_at_call 140; (with_reducible refine (iP.calls n ts _ ?side1 As.out).mono ?_); (case side1 => exact cZ.below ve.out (by repeat (first | (with_reducible first | exact HB.out | apply dP | apply dJ | apply dQ) | exact HB.out))); rintro e w3 ⟨rfl, hb⟩; have D5 := dC.mk (bK (by repeat (first | (with_reducible first | exact HB.out | apply dP | apply dJ | apply dQ) | exact HB.out)) hb); clear HB; have HB := D5; clear D5; (try clear hb)))
    go_ret
    exact ⟨by first | rfl | (simp; done), by repeat (first | (with_reducible first | exact HB.out | apply dP | apply dJ | apply dQ) | exact HB.out)⟩
 ·rw [ha] at h
  obtain rfl := Option.some.inj h
  have C0 := Any.strconv_Atoi_syntax_var Tryz.laysC172 a0 hc ha t1 p1 w e1
  have C1 : Calls Tryz.prog 139 #[.string a0] w fun e w' => ∃ N t, e = .returned (.tuple #[.int .i64 0, .iface t (.pointer (some ⟨N, 0, none⟩))]) ∧ Below w.heap.size w w' :=
   (show Calls Tryz.prog 139 _ _ _ from C0).mono fun e w' ⟨N, h1, _, _, h4⟩ => ⟨N, _, h1, h4⟩
  have C := dC.mk C1
  clear C0 C1
  clear ha e1 e2 h
  go_enter Tryz.func104, Tryz.ntmps104
  go_wp2_with (go_at_call 139; (with_reducible refine C.out.mono ?_); rintro e w' ⟨NE, TE, rfl, hb⟩; have D5 := dC.mk (bK (by repeat (first | (with_reducible first | exact HB.out | apply dP | apply dJ | apply dQ) | exact HB.out)) hb); clear HB; have HB := D5; clear D5; (try clear hb))
  go_ret
  exact ⟨by first | rfl | (simp; done), by repeat (first | (with_reducible first | exact HB.out | apply dP | apply dJ | apply dQ) | exact HB.out)⟩
 ·rw [ha] at h
  obtain rfl := Option.some.inj h
  have C := dC.mk (Tryz.strconv_Atoi_range_var a0 hc ha t2 p2 w e2)
  clear ha e1 e2 h
  go_enter Tryz.func104, Tryz.ntmps104
  go_wp2_with (go_at_call 139; (with_reducible refine C.out.mono ?_); rintro e w' ⟨NE, rfl, -, -, hb⟩; have D5 := dC.mk (bK (by repeat (first | (with_reducible first | exact HB.out | apply dP | apply dJ | apply dQ) | exact HB.out)) hb); clear HB; have HB := D5; clear D5; (try clear hb))
  go_ret
  exact ⟨by first | rfl | (simp; done), by repeat (first | (with_reducible first | exact HB.out | apply dP | apply dJ | apply dQ) | exact HB.out)⟩
def strings_Join.f (l0 : List ByteArray) (a1 : ByteArray) : Option ByteArray := if l0.length ≤ 140737488355328 ∧ (Lib.join (l0.map (·.data.toList)) a1.data.toList).length ≤ 140737488355328 then some ⟨(Lib.join (l0.map (·.data.toList)) a1.data.toList).toArray⟩ else none
theorem strings_Join.calls (A0 : Option Addr) (c0 : Nat) (l0 : List ByteArray) (a1 : ByteArray) (r : ByteArray) (w : World) (hr0 : Kd.C Kd.string w A0 l0.length l0) (hc0 : l0.length ≤ c0) (h : strings_Join.f l0 a1 = some r) :
  Calls Tryz.prog 44 #[.slice A0 l0.length c0, .string a1] w fun e w' => e = .returned (.string r) ∧ Below w.heap.size w w' := by
 unfold strings_Join.f at h
 by_cases hc : l0.length ≤ 140737488355328 ∧ (Lib.join (l0.map (·.data.toList)) a1.data.toList).length ≤ 140737488355328
 ·rw [if_pos hc] at h
  obtain rfl := Option.some.inj h
  cases l0 with
  | nil => exact (Tryz.strings_Join_none A0 c0 a1 w).mono fun e w' ⟨h1, h2⟩ => ⟨h1, h2 ▸ Below.refl _ _⟩
  | cons x l =>
   obtain ⟨ad, rfl, hcell⟩ := hr0.2.2 (by simp)
   have cell : ∀ (j : Nat) y, (x :: l)[j]? = some y → w.cell? (ad.add (j * 1 + 0)) = some (.string y) := by
    intro j y hy
    obtain ⟨cs, _, hk, hi⟩ := hcell j y hy
    have hk' : cs = [.string y] := hk
    subst hk'
    exact hi 0 _ rfl
   obtain ⟨b, o, sp⟩ := ad
   have hsp : sp = none := Go.Proofs.cell_spot (cell 0 x rfl)
   subst hsp
   have e : ∀ j, (⟨b, o, none⟩ : Addr).add (j * 1 + 0) = ⟨b, o + j, none⟩ := fun j => by unfold Addr.add; simp
   refine (Tryz.strings_Join b o c0 (x :: l) a1 w (fun j y hy => by rw [← e j]; exact cell j y hy) (World.block_lt_of_cell? w ⟨b, o + 0, none⟩ (by rw [← e 0]; exact cell 0 x rfl)) hc.1 hc0 hc.2).mono fun e w' ⟨h1, h2⟩ => ⟨h1, h2⟩
 ·rw [if_neg hc] at h; cases h
def lq.f (a0 : Int) : Option (Bool) := if a0 ≥ 48 then (some (decide (a0 ≤ 57))) else (some false)
def ai.l0 : Nat → ByteArray → Int → Int → Option (Bool)
 | 0, _, _, _ => none
 | k + 1, x0, x7, x8 => if x8 < x7 then (if 0 ≤ x8 then (if x8 < (x0.size : Int) then ((lq.f (bt x0 x8)).bind fun t510 => (if t510 = true then (ai.l0 k x0 x7 (wrap64 (x8 + 1))) else (some false))) else (none)) else (none)) else (some true)
def ai.f (k : Nat) (a0 : ByteArray)  : Option (Bool) := ai.l0 k a0 (a0.size : Int) 0
theorem ai.dV : ∀ k, (∀ y0 y1 y2, bz (ai.l0 k y0 y1 y2) (ai.l0 (k + 1) y0 y1 y2))
 | 0 => fun _ _ _ r h => by simp [ai.l0] at h
 | k + 1 => by
  have kF := ai.dV k
  ·intro y0 y1 y2
   unfold ai.l0
   repeat' first
   | (with_reducible first | exact kF _ _ _ | exact bz.refl _ | exact bz.none _ | refine bz.ite ?_ ?_ | refine bz.bind ?_ (fun _ => ?_))
theorem ai.mono : ∀ a0 k, bz (ai.f k a0) (ai.f (k + 1) a0) := by
 intro a0 k
 have kF := ai.dV k
 unfold ai.f
 repeat' first
   | (with_reducible first | exact kF _ _ _ | exact bz.refl _ | exact bz.none _ | refine bz.ite ?_ ?_ | refine bz.bind ?_ (fun _ => ?_))
def gU.f (k : Nat) (a0 : ByteArray) : Option (Bool) := if a0.toList = ([] : List UInt8) then (some false) else ((ai.f k a0).bind fun t511 => (some t511))
theorem gU.mono : ∀ a0 k, bz (gU.f k a0) (gU.f (k + 1) a0) := by
 intro a0 k
 unfold gU.f
 repeat' first
   | (with_reducible first | exact ai.mono _ _ | exact bz.refl _ | exact bz.none _ | refine bz.ite ?_ ?_ | refine bz.bind ?_ (fun _ => ?_))
def qw.f (a0 : Int) : Option (Bool) := if a0 ≥ 97 then (some (decide (a0 ≤ 122))) else (some false)
def pW.f (a0 : Int) : Option (Bool) := (qw.f a0).bind fun t507 => (if t507 = true then (some true) else (if a0 ≥ 65 then (some (decide (a0 ≤ 90))) else (some false)))
def lM.f (a0 : Int) : Option (Bool) := (pW.f a0).bind fun t508 => (if t508 = true then (some true) else ((lq.f a0).bind fun t509 => (if t509 = true then (some true) else (some (a0 == 45)))))
def aT.l0 : Nat → ByteArray → Int → Int → Option (Bool)
 | 0, _, _, _ => none
 | k + 1, x0, x7, x8 => if x8 < x7 then (if 0 ≤ x8 then (if x8 < (x0.size : Int) then ((lM.f (bt x0 x8)).bind fun t512 => (if t512 = true then (aT.l0 k x0 x7 (wrap64 (x8 + 1))) else (some false))) else (none)) else (none)) else (some true)
def aT.f (k : Nat) (a0 : ByteArray)  : Option (Bool) := aT.l0 k a0 (a0.size : Int) 0
theorem aT.dV : ∀ k, (∀ y0 y1 y2, bz (aT.l0 k y0 y1 y2) (aT.l0 (k + 1) y0 y1 y2))
 | 0 => fun _ _ _ r h => by simp [aT.l0] at h
 | k + 1 => by
  have kF := aT.dV k
  ·intro y0 y1 y2
   unfold aT.l0
   repeat' first
   | (with_reducible first | exact kF _ _ _ | exact bz.refl _ | exact bz.none _ | refine bz.ite ?_ ?_ | refine bz.bind ?_ (fun _ => ?_))
theorem aT.mono : ∀ a0 k, bz (aT.f k a0) (aT.f (k + 1) a0) := by
 intro a0 k
 have kF := aT.dV k
 unfold aT.f
 repeat' first
   | (with_reducible first | exact kF _ _ _ | exact bz.refl _ | exact bz.none _ | refine bz.ite ?_ ?_ | refine bz.bind ?_ (fun _ => ?_))
end Go.Proofs.YtieohddolkeegaaGreatDoor.G

end
