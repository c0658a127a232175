/- A part of the proof that the law FnExactPackOk answers true at every input that its row speaks of. Conditions: the row's own. -/
import Derived.Test.YtbepbfibanmhoaaGreatDoorProg
import Derived.Test.YtbepbfibanmhoaaGreatDoorOrd
import Derived.Below
import Derived.Deep.Draws
import Derived.Deep.AppendLies
import Derived.Maps.AppendAt
import Derived.OwnWalk
import Derived.Laws.BytesArg
import Derived.Laws.MakeOwn
import Derived.Laws.OwnMore
import Derived.Deep.OwnRows
import Derived.Tactics
import Derived.Lib.ConvBytes
import Derived.Laws.Slices
import Derived.WalkKit
import Derived.KernelRfl
import Derived.RowKit3
import Derived.Deep.LoopGhost
import Derived.Deep.QuietTactic
import Derived.BigQuiet
import Derived.WideLaws
import Derived.Deep.DeepCutAuto
import Derived.Deep.CutBlock
import Derived.Deep.RegionHeld3
import Derived.Laws.Rows
import Derived.Lib.AppendStr
import Derived.ArgAppend
import Derived.Laws.IdiomCopy
import Derived.OrdersHeld
import Derived.Laws.BitsLemmas
import Derived.RowKit
import Derived.Test.YtbepbfibanmhoaaGreatDoorGlob
import Derived.Test.YtbepbfibanmhoaaGreatDoorVMore
import Derived.Lib.SplitLaws
import Derived.Test.YtbepbfibanmhoaaGreatDoorShelf
import Derived.Lib.AppendIntMem
import Derived.Lib.SmallJoins
section
namespace Go.Proofs.YtbepbfibanmhoaaGreatDoor.G
open Go.RowKit Go.Proofs.YtbepbfibanmhoaaGreatDoorW.PrintWords Go.Proofs.YtbepbfibanmhoaaGreatDoorW.PrintLast Go.Proofs.YtbepbfibanmhoaaGreatDoorW.PrintMore
attribute [local go_sem] max2_int min2_int max_two min_two max_three min_three max_four min_four
attribute [local go_sem high] Go.Proofs.YtbepbfibanmhoaaGreatDoor.G.str_gtr Go.Proofs.YtbepbfibanmhoaaGreatDoor.G.str_leq Go.Proofs.YtbepbfibanmhoaaGreatDoor.G.str_geq
set_option linter.unusedVariables false
set_option linter.unusedSimpArgs false
def errW : Option Int → Value
 | none => .nilIface
 | some c => .iface 0 (.int .i64 c)
theorem errW_none : errW none = .nilIface := rfl
theorem errW_some (c : Int) : errW (some c) = .iface 0 (.int .i64 c) := rfl
theorem info9 : (Tryz.prog.info? 9).map (fun i => (i.zero, i.size, i.bytes)) = some (some (.string ⟨#[]⟩), 1, 16) := by kernel_rfl
theorem info62 : (Tryz.prog.info? 62).map (fun i => (i.zero, i.size, i.bytes)) = some (some (.agg #[(.string ⟨#[]⟩), (.string ⟨#[]⟩)]), 2, 32) := by kernel_rfl
structure S48 where
 f0 : ByteArray
 f1 : ByteArray
def z48 : S48 := ⟨(⟨#[]⟩ : ByteArray), (⟨#[]⟩ : ByteArray)⟩
def k48 : Kd S48 := Kd.iso (Kd.pair Kd.string Kd.string) (fun x : S48 => (x.f0, x.f1))
def rd_T48 (xs : List S48) (i : Int) : S48 := xs.getD i.toNat z48
structure S55 where
 f0 : ByteArray
 f1 : ByteArray
def z55 : S55 := ⟨(⟨#[]⟩ : ByteArray), (⟨#[]⟩ : ByteArray)⟩
def k55 : Kd S55 := Kd.iso (Kd.pair Kd.string Kd.string) (fun x : S55 => (x.f0, x.f1))
theorem k55_mkM (w : World) (base : Nat) (ok : Nat → Prop) (x : S55)  : k55.M w base ok x [.string x.f0, .string x.f1] := ⟨[.string x.f0], [.string x.f1], rfl, rfl, rfl⟩
def rd_T55 (xs : List S55) (i : Int) : S55 := xs.getD i.toNat z55
def rd_L5 (xs : List (List ByteArray)) (i : Int) : (List ByteArray) := xs.getD i.toNat ([] : List ByteArray)
structure S79 where
 f0 : ByteArray
 f1 : ByteArray
def z79 : S79 := ⟨(⟨#[]⟩ : ByteArray), (⟨#[]⟩ : ByteArray)⟩
def k79 : Kd S79 := Kd.iso (Kd.pair Kd.string Kd.string) (fun x : S79 => (x.f0, x.f1))
theorem k79_open {w : World} {x : S79} {cs : List Value} (h : k79.K w x cs) : cs = [.string x.f0, .string x.f1] := by
 obtain ⟨_, _, rfl, rfl, rfl⟩ := h
 exact rfl
def rd_T79 (xs : List S79) (i : Int) : S79 := xs.getD i.toNat z79
theorem at_T79 {w : World} {A : Option Addr} {n : Nat} {xs : List S79} (h : Kd.C k79 w A n xs) (i : Int) (h0 : 0 ≤ i) (h1 : i < n) : ∃ ad , A = some ad ∧ w.cell? (ad.add (i.toNat * 2)) = some (.string (rd_T79 xs i).f0) ∧ w.cell? ⟨(ad.add (i.toNat * 2)).block, (ad.add (i.toNat * 2)).off + 1, none⟩ = some (.string (rd_T79 xs i).f1) := by
 obtain ⟨ad, c, e, _, hK, hc0⟩ := Kd.C_get h z79 i h0 h1
 have hc : ∀ j u, c[j]? = some u → w.cell? (ad.add (i.toNat * 2 + j)) = some u := hc0
 obtain rfl := k79_open hK
 exact ⟨ad, e, hc 0 _ rfl, by rw [← add_field _ _ 1 (by omega)]; exact hc 1 _ rfl⟩
structure S62 where
 f0 : ByteArray
 f1 : ByteArray
def z62 : S62 := ⟨(⟨#[]⟩ : ByteArray), (⟨#[]⟩ : ByteArray)⟩
def k62 : Kd S62 := Kd.iso (Kd.pair Kd.string Kd.string) (fun x : S62 => (x.f0, x.f1))
theorem k62_open {w : World} {x : S62} {cs : List Value} (h : k62.K w x cs) : cs = [.string x.f0, .string x.f1] := by
 obtain ⟨_, _, rfl, rfl, rfl⟩ := h
 exact rfl
theorem k62_openM {w : World} {base : Nat} {ok : Nat → Prop} {x : S62} {cs : List Value} (h : k62.M w base ok x cs) : cs = [.string x.f0, .string x.f1] := by
 obtain ⟨_, _, rfl, rfl, rfl⟩ := h
 exact rfl
theorem k62_mkM (w : World) (base : Nat) (ok : Nat → Prop) (x : S62)  : k62.M w base ok x [.string x.f0, .string x.f1] := ⟨[.string x.f0], [.string x.f1], rfl, rfl, rfl⟩
def rd_T62 (xs : List S62) (i : Int) : S62 := xs.getD i.toNat z62
theorem at_T62 {w : World} {A : Option Addr} {n : Nat} {xs : List S62} (h : Kd.C k62 w A n xs) (i : Int) (h0 : 0 ≤ i) (h1 : i < n) : ∃ ad , A = some ad ∧ w.cell? (ad.add (i.toNat * 2)) = some (.string (rd_T62 xs i).f0) ∧ w.cell? ⟨(ad.add (i.toNat * 2)).block, (ad.add (i.toNat * 2)).off + 1, none⟩ = some (.string (rd_T62 xs i).f1) := by
 obtain ⟨ad, c, e, _, hK, hc0⟩ := Kd.C_get h z62 i h0 h1
 have hc : ∀ j u, c[j]? = some u → w.cell? (ad.add (i.toNat * 2 + j)) = some u := hc0
 obtain rfl := k62_open hK
 exact ⟨ad, e, hc 0 _ rfl, by rw [← add_field _ _ 1 (by omega)]; exact hc 1 _ rfl⟩
def rd_L9 (xs : List (List S79)) (i : Int) : (List S79) := xs.getD i.toNat ([] : List S79)
def spec_l04Long.j0 : Nat → ByteArray → Bool → Option (Int)
 | 0, _, _ => none
 | k + 1, x3, x6 => if x6 = true then (some 32) else (if x3.toList = ([115, 104, 97, 53, 49, 50] : List UInt8) then (some 64) else (some (-1)))
def spec_l04Long.f (k : Nat) (a0 : ByteArray) : Option (Int) := if a0.toList = ([115, 104, 97, 49] : List UInt8) then (some 20) else (if a0.toList = ([115, 104, 97, 50, 53, 54] : List UInt8) then (spec_l04Long.j0 k a0 (a0.toList == ([115, 104, 97, 50, 53, 54] : List UInt8))) else (spec_l04Long.j0 k a0 (a0.toList == ([104, 49] : List UInt8))))
set_option maxHeartbeats 8000000 in
set_option maxRecDepth 100000 in
theorem spec_l04Long.calls (k : Nat) (a0 : ByteArray) (r : Int) (w : World) (h : spec_l04Long.f k a0 = some r) :
  Calls Tryz.prog 36 #[.string a0] w fun e w' => e = .returned (.int .i64 r) ∧ Drawn0 w w' := by
 have H : (if a0.toList = ([115, 104, 97, 49] : List UInt8) then (some 20) else (if a0.toList = ([115, 104, 97, 50, 53, 54] : List UInt8) then (spec_l04Long.j0 k a0 (a0.toList == ([115, 104, 97, 50, 53, 54] : List UInt8))) else (spec_l04Long.j0 k a0 (a0.toList == ([104, 49] : List UInt8))))) = some r := h
 clear h
 by_cases c2 : a0.toList = ([115, 104, 97, 49] : List UInt8)
 ·rw [if_pos c2] at H
  have c2b0 : (a0.toList == ([115, 104, 97, 49] : List UInt8)) = true := beq_iff_eq.mpr c2
  have c2b1 : (a0.toList != ([115, 104, 97, 49] : List UInt8)) = false := bne_eq_false_iff_eq.mpr c2
  clear c2
  obtain rfl := Option.some.inj H
  go_enter Tryz.func36, Tryz.ntmps36
  go_wp2
  go_ret
  exact zs1
 ·rw [if_neg c2] at H
  have c2b0 : (a0.toList == ([115, 104, 97, 49] : List UInt8)) = false := beq_eq_false_iff_ne.mpr c2
  have c2b1 : (a0.toList != ([115, 104, 97, 49] : List UInt8)) = true := bne_iff_ne.mpr c2
  have HC3 := Aside0.mk H
  clear H
  go_enter Tryz.func36, Tryz.ntmps36
  go_upto_if 6 with (fail)
  go_cut [6] (fun v6 wc => ∃ (kq : Nat) (x6_2 : Bool), v6 = .bool x6_2 ∧ Aside0 (spec_l04Long.j0 kq a0 x6_2 = some r) ∧ Aside0 (kq ≤ k) ∧ Drawn0 w wc)
  case first =>
   have H := HC3.out
   clear HC3
   by_cases c4 : a0.toList = ([115, 104, 97, 50, 53, 54] : List UInt8)
   ·rw [if_pos c4] at H
    have c4b0 : (a0.toList == ([115, 104, 97, 50, 53, 54] : List UInt8)) = true := beq_iff_eq.mpr c4
    have c4b1 : (a0.toList != ([115, 104, 97, 50, 53, 54] : List UInt8)) = false := bne_eq_false_iff_eq.mpr c4
    clear c4
    (first | rw [c4b0] | (simp only [i64_w, i32_w]; rw [c4b0]) | skip)
    have H' := Aside0.mk H
    clear H
    go_wp2
    go_meet
    case rel => exact ⟨_, ((a0.toList == ([115, 104, 97, 50, 53, 54] : List UInt8))), zb5, H', ⟨by first | omega | exact Nat.le_refl _⟩, by repeat (first | exact Drawn0.refl _ | apply Drawn0.step)⟩
   ·rw [if_neg c4] at H
    have c4b0 : (a0.toList == ([115, 104, 97, 50, 53, 54] : List UInt8)) = false := beq_eq_false_iff_ne.mpr c4
    have c4b1 : (a0.toList != ([115, 104, 97, 50, 53, 54] : List UInt8)) = true := bne_iff_ne.mpr c4
    (first | rw [c4b0] | (simp only [i64_w, i32_w]; rw [c4b0]) | skip)
    have H' := Aside0.mk H
    clear H
    go_wp2
    go_meet
    case rel => exact ⟨_, ((a0.toList == ([104, 49] : List UInt8))), zb5, H', ⟨by first | omega | exact Nat.le_refl _⟩, by repeat (first | exact Drawn0.refl _ | apply Drawn0.step)⟩
  case rest =>
   clear HC3
   try clear c2
   try clear c2b0
   try clear c2b1
   try clear p2
   try clear c3
   try clear c4
   try clear c4b0
   try clear c4b1
   obtain ⟨kq, x6_2, rfl, HA, HJ2, ⟨mc2, rfl⟩⟩ := hcut
   cases kq with
   | zero => exact absurd HA.out (by simp [spec_l04Long.j0])
   | succ kj2 =>
    have H := HA.out
    clear HA
    simp only [spec_l04Long.j0] at H
    by_cases c5 : x6_2 = true
    ·subst c5
     have H1 : (some 32) = some r := by rw [if_pos rfl] at H; exact H
     clear H
     have H := H1
     clear H1
     obtain rfl := Option.some.inj H
     go_wp2
     go_ret
     exact zs1
    ·replace c5 := Bool.eq_false_iff.mpr c5
     subst c5
     have H1 : (if a0.toList = ([115, 104, 97, 53, 49, 50] : List UInt8) then (some 64) else (some (-1))) = some r := by rw [if_neg (show ¬ (false = true) by decide)] at H; exact H
     clear H
     have H := H1
     clear H1
     by_cases c6 : a0.toList = ([115, 104, 97, 53, 49, 50] : List UInt8)
     ·rw [if_pos c6] at H
      have c6b0 : (a0.toList == ([115, 104, 97, 53, 49, 50] : List UInt8)) = true := beq_iff_eq.mpr c6
      have c6b1 : (a0.toList != ([115, 104, 97, 53, 49, 50] : List UInt8)) = false := bne_eq_false_iff_eq.mpr c6
      clear c6
      obtain rfl := Option.some.inj H
      go_wp2
      go_ret
      exact zs1
     ·rw [if_neg c6] at H
      have c6b0 : (a0.toList == ([115, 104, 97, 53, 49, 50] : List UInt8)) = false := beq_eq_false_iff_ne.mpr c6
      have c6b1 : (a0.toList != ([115, 104, 97, 53, 49, 50] : List UInt8)) = true := bne_iff_ne.mpr c6
      obtain rfl := Option.some.inj H
      go_wp2
      go_ret
      exact zs1
def spec_l01Cut.l0 : Nat → ByteArray → Int → List ByteArray → Int → Int → Option (List ByteArray)
 | 0, _, _, _, _, _ => none
 | k + 1, x0, x1, x5, x6, x7 => if x7 < (x0.size : Int) then (if 0 ≤ x7 then (if (bt x0 x7) = x1 then (if 0 ≤ x6 then (if x6 ≤ x7 then (if x7 ≤ (x0.size : Int) then (if x5.length < 8796093022208 then (spec_l01Cut.l0 k x0 x1 (x5 ++ [x0.extract (x6 : Int).toNat (x7 : Int).toNat]) (wrap64 (x7 + 1)) (wrap64 (x7 + 1))) else (none)) else (none)) else (none)) else (none)) else (spec_l01Cut.l0 k x0 x1 x5 x6 (wrap64 (x7 + 1)))) else (none)) else (if 0 ≤ x6 then (if x6 ≤ (x0.size : Int) then (if x5.length < 8796093022208 then (some (x5 ++ [x0.extract (x6 : Int).toNat x0.size])) else (none)) else (none)) else (none))
def spec_l01Cut.f (k : Nat) (a0 : ByteArray) (a1 : Int) : Option (List ByteArray) := spec_l01Cut.l0 k a0 a1 (([] : List ByteArray)) 0 0
set_option maxHeartbeats 8000000 in
set_option maxRecDepth 100000 in
theorem spec_l01Cut.calls (k : Nat) (a0 : ByteArray) (a1 : Int) (r : List ByteArray) (w : World) (h : spec_l01Cut.f k a0 a1 = some r) :
  Calls Tryz.prog 52 #[.string a0, .int .u8 a1] w fun e w' => ∃ v0_ : Value, e = .returned (v0_) ∧ Kd.R Kd.string 9 w' w.heap.size (fun _ => True) v0_ r ∧ Below w.heap.size w w' := by
 have HB := Aside0.mk (Below.refl w.heap.size w)
 have H : (spec_l01Cut.l0 k a0 a1 (([] : List ByteArray)) 0 0) = some r := h
 clear h
 obtain ⟨y104, hy104⟩ : ∃ y_ : List ByteArray, y_ = (([] : List ByteArray)) := ⟨_, rfl⟩
 replace H : (spec_l01Cut.l0 k a0 a1 y104 0 0) = some r := by first | (rw [hy104]; with_reducible exact H) | (have H2_ := (Option.bind_some _ _).symm.trans H; rw [hy104]; with_reducible exact H2_) | (have H2_ := (Option.bind_some _ _).symm.trans H; with_reducible exact H2_) | with_reducible exact H | (rw [hy104]; exact H) | exact H
 have Ny104 := Aside0.mk hy104
 clear hy104
 have H' := Aside0.mk H
 clear H
 go_enter Tryz.func52, Tryz.ntmps52
 go_wp2_with (first | ((with_reducible refine gate_dst (N := 8) rfl ?_); refine Kd.R_lit Kd.string _ 9 ?hg (N := 8) ?hd (xs := ([] : List ByteArray)) (inner := []) (ok := fun _ => True) (okp := fun _ => True) ?hr ?hp (fun _ hk => hk) trivial (Below.refl _ _) (Nat.le_refl _) (by simp) ?_; (case hd => rfl); (case hg => rfl); (case hr => first | (go_simp; done) | (go_simp; rfl)); (case hp => exact (Reps.none _ _)); intro v105 w3 ho4 hb hg_ hnew_; clear hg_ hnew_; (first | rw [← Ny104.out] at ho4 | (simp only [Int.reduceToNat] at ho4; rw [← Ny104.out] at ho4)); have n0_ := Aside0.mk (Kd.R_lower ho4 (below_size zb0)); have n1_ := Aside0.mk (below_step zb0 hb); clear HB; have HO106 := n0_; have HB := n1_; clear n0_ n1_; clear hb ho4))
 go_loopg [5, 6, 7] k (fun kq v5 v6 v7 w' => ∃ (x5_1 : List ByteArray) (x6_1 : Int) (x7_1 : Int), v6 = .int .i64 x6_1 ∧ v7 = .int .i64 x7_1 ∧ Aside0 (spec_l01Cut.l0 kq a0 a1 x5_1 x6_1 x7_1 = some r) ∧ Aside0 (kq ≤ k) ∧ Aside0 (Kd.R Kd.string 9 w' w.heap.size (fun _ => True) v5 x5_1) ∧ Aside0 (Below w.heap.size w w'))
 case atStart => exact ⟨(y104), (0), (0), zb5, zb5, H', ⟨Nat.le_refl _⟩, ⟨by (with_reducible repeat (first | apply Kd.R_alloc | apply Kd.R_drewN | apply Kd.R_drew)); exact HO106.out⟩, ⟨by repeat (first | (with_reducible first | exact HB.out | apply below_alloc | apply pw_below_drewN | apply below_drew1) | exact HB.out)⟩⟩
 case round =>
  clear H'
  try clear p2
  obtain ⟨x5_1, x6_1, x7_1, rfl, rfl, HA, HK1, HO_5, HB⟩ := hrel
  cases gk with
  | zero => exact absurd HA.out (by simp [spec_l01Cut.l0])
  | succ k1 =>
   have H := HA.out
   clear HA
   simp only [spec_l01Cut.l0] at H
   by_cases c5 : x7_1 < (a0.size : Int)
   ·rw [if_pos c5] at H
    have c5b0 : decide (x7_1 < (a0.size : Int)) = true := decide_eq_true c5
    clear c5
    by_cases c6 : 0 ≤ x7_1
    ·rw [if_pos c6] at H
     have c6b0 : decide (0 ≤ x7_1) = true := decide_eq_true c6
     clear c6
     by_cases c8 : (bt a0 x7_1) = a1
     ·rw [if_pos c8] at H
      have c8b0 : ((bt a0 x7_1) == a1) = true := beq_iff_eq.mpr c8
      have c8b1 : ((bt a0 x7_1) != a1) = false := bne_eq_false_iff_eq.mpr c8
      clear c8
      by_cases c9 : 0 ≤ x6_1
      ·rw [if_pos c9] at H
       have c9b0 := eq_true c9
       have c9b1 : decide (0 ≤ x6_1) = true := decide_eq_true c9
       clear c9
       by_cases c10 : x6_1 ≤ x7_1
       ·rw [if_pos c10] at H
        have c10b0 := eq_true c10
        have c10b1 : decide (x6_1 ≤ x7_1) = true := decide_eq_true c10
        clear c10
        by_cases c11 : x7_1 ≤ (a0.size : Int)
        ·rw [if_pos c11] at H
         have c11b0 := eq_true c11
         have c11b1 : decide (x7_1 ≤ (a0.size : Int)) = true := decide_eq_true c11
         clear c11
         obtain ⟨js12, hjs12⟩ : ∃ j_ : ByteArray, (a0.extract (x6_1 : Int).toNat (x7_1 : Int).toNat) = j_ := ⟨_, rfl⟩
         replace H : (if x5_1.length < 8796093022208 then (spec_l01Cut.l0 k1 a0 a1 (x5_1 ++ [js12]) (wrap64 (x7_1 + 1)) (wrap64 (x7_1 + 1))) else (none)) = some r := by first | (rw [hjs12] at H; exact H) | (simp only [hjs12] at H ⊢; exact H)
         by_cases c13 : x5_1.length < 8796093022208
         ·rw [if_pos c13] at H
          have LMc13 := Aside0.mk c13
          clear c13
          obtain ⟨y107, hy107⟩ : ∃ y_ : List ByteArray, y_ = (x5_1 ++ [js12]) := ⟨_, rfl⟩
          replace H : (spec_l01Cut.l0 k1 a0 a1 y107 (wrap64 (x7_1 + 1)) (wrap64 (x7_1 + 1))) = some r := by first | (rw [hy107]; with_reducible exact H) | (have H2_ := (Option.bind_some _ _).symm.trans H; rw [hy107]; with_reducible exact H2_) | (have H2_ := (Option.bind_some _ _).symm.trans H; with_reducible exact H2_) | with_reducible exact H | (rw [hy107]; exact H) | exact H
          have Ny107 := Aside0.mk hy107
          clear hy107
          have H' := Aside0.mk H
          clear H
          have p7 : 0 ≤ (x7_1 : Int) := of_decide_eq_true zb2
          have q7 : x7_1 < (a0.size : Int) := of_decide_eq_true zb2
          have hx7 := bt_at a0 x7_1
          replace p7 := eq_true p7
          replace q7 := eq_true q7
          go_wp2_with (first | ((with_reducible refine gate_builtin (b := .append) (xs := #[.tmp 20, .tmp 25]) rfl ?_); at_builtin; refine Kd.R_append Kd.string (w0 := w) w.heap.size rfl (.tmp 20) (.tmp 25) 30 9 (.string ⟨#[]⟩) 16 rfl Tryz.underlying30 info9 rfl (by decide) (by omega) u5 x5_1 js12 [.string js12] (fun _ => True) (fun _ => False) rfl rfl ?aP (fun _ hk => hk.elim) ?aF ?aO ?aB ?aS ?aL ?_; (case aP => exact rfl); (case aB => exact zb0); (case aF => exact (fun _ _ => trivial)); (case aO => exact (by (with_reducible repeat (first | apply Kd.R_alloc | apply Kd.R_drewN | apply Kd.R_drew)); exact HO_5.out)); (case aS => exact (below_size zb0)); (case aL => have := LMc13.out; omega); intro v108 w14 ho hb hg hat; rw [← Ny107.out] at ho; have n0_ := Aside0.mk (hb); have n1_ := Aside0.mk (ho); clear HB; clear HO_5; have HB := n0_; have HO109 := n1_; clear n0_ n1_; clear ho hb hg hat))
          go_roundg k1
          case measure => have := HK1.out; omega
          case rel => exact ⟨(y107), (wrap64 (x7_1 + 1)), (wrap64 (x7_1 + 1)), zb5, zb5, H', ⟨by have := HK1.out; omega⟩, ⟨by (with_reducible repeat (first | apply Kd.R_alloc | apply Kd.R_drewN | apply Kd.R_drew)); exact HO109.out⟩, ⟨by repeat (first | (with_reducible first | exact HB.out | apply below_alloc | apply pw_below_drewN | apply below_drew1) | exact HB.out)⟩⟩
         ·rw [if_neg c13] at H
          exact absurd H (by simp)
        ·rw [if_neg c11] at H
         exact absurd H (by simp)
       ·rw [if_neg c10] at H
        exact absurd H (by simp)
      ·rw [if_neg c9] at H
       exact absurd H (by simp)
     ·rw [if_neg c8] at H
      have c8b0 : ((bt a0 x7_1) == a1) = false := beq_eq_false_iff_ne.mpr c8
      have c8b1 : ((bt a0 x7_1) != a1) = true := bne_iff_ne.mpr c8
      have H' := Aside0.mk H
      clear H
      have p7 : 0 ≤ (x7_1 : Int) := of_decide_eq_true zb2
      have q7 : x7_1 < (a0.size : Int) := of_decide_eq_true zb2
      have hx7 := bt_at a0 x7_1
      replace p7 := eq_true p7
      replace q7 := eq_true q7
      go_wp2
      go_roundg k1
      case measure => have := HK1.out; omega
      case rel => exact ⟨(x5_1), (x6_1), (wrap64 (x7_1 + 1)), zb5, zb5, H', ⟨by have := HK1.out; omega⟩, ⟨by (with_reducible repeat (first | apply Kd.R_alloc | apply Kd.R_drewN | apply Kd.R_drew)); exact HO_5.out⟩, ⟨by repeat (first | (with_reducible first | exact HB.out | apply below_alloc | apply pw_below_drewN | apply below_drew1) | exact HB.out)⟩⟩
    ·rw [if_neg c6] at H
     exact absurd H (by simp)
   ·rw [if_neg c5] at H
    have c5b0 : decide (x7_1 < (a0.size : Int)) = false := decide_eq_false c5
    clear c5
    by_cases c15 : 0 ≤ x6_1
    ·rw [if_pos c15] at H
     have c15b0 := eq_true c15
     have c15b1 : decide (0 ≤ x6_1) = true := decide_eq_true c15
     clear c15
     by_cases c16 : x6_1 ≤ (a0.size : Int)
     ·rw [if_pos c16] at H
      have c16b0 := eq_true c16
      have c16b1 : decide (x6_1 ≤ (a0.size : Int)) = true := decide_eq_true c16
      clear c16
      obtain ⟨js17, hjs17⟩ : ∃ j_ : ByteArray, (a0.extract (x6_1 : Int).toNat a0.size) = j_ := ⟨_, rfl⟩
      replace H : (if x5_1.length < 8796093022208 then (some (x5_1 ++ [js17])) else (none)) = some r := by first | (rw [hjs17] at H; exact H) | (simp only [hjs17] at H ⊢; exact H)
      by_cases c18 : x5_1.length < 8796093022208
      ·rw [if_pos c18] at H
       have LMc18 := Aside0.mk c18
       clear c18
       obtain ⟨y110, hy110⟩ : ∃ y_ : List ByteArray, y_ = (x5_1 ++ [js17]) := ⟨_, rfl⟩
       replace H : (some y110) = some r := by first | (rw [hy110]; with_reducible exact H) | (have H2_ := (Option.bind_some _ _).symm.trans H; rw [hy110]; with_reducible exact H2_) | (have H2_ := (Option.bind_some _ _).symm.trans H; with_reducible exact H2_) | with_reducible exact H | (rw [hy110]; exact H) | exact H
       have Ny110 := Aside0.mk hy110
       clear hy110
       obtain rfl := Option.some.inj H
       go_wp2_with (first | ((with_reducible refine gate_builtin (b := .append) (xs := #[.tmp 29, .tmp 33]) rfl ?_); at_builtin; refine Kd.R_append Kd.string (w0 := w) w.heap.size rfl (.tmp 29) (.tmp 33) 30 9 (.string ⟨#[]⟩) 16 rfl Tryz.underlying30 info9 rfl (by decide) (by omega) u5 x5_1 js17 [.string js17] (fun _ => True) (fun _ => False) rfl rfl ?aP (fun _ hk => hk.elim) ?aF ?aO ?aB ?aS ?aL ?_; (case aP => exact rfl); (case aB => exact zb0); (case aF => exact (fun _ _ => trivial)); (case aO => exact (by (with_reducible repeat (first | apply Kd.R_alloc | apply Kd.R_drewN | apply Kd.R_drew)); exact HO_5.out)); (case aS => exact (below_size zb0)); (case aL => have := LMc18.out; omega); intro v111 w19 ho hb hg hat; rw [← Ny110.out] at ho; have n0_ := Aside0.mk (hb); have n1_ := Aside0.mk (ho); clear HB; clear HO_5; have HB := n0_; have HO112 := n1_; clear n0_ n1_; clear ho hb hg hat))
       go_ret
       exact ⟨_, by first | rfl | (simp [errW_none, errW_some] <;> rfl) | (simp only [← hjs17]; first | rfl | (simp [errW_none, errW_some] <;> rfl)) | (simp [*, errW_none, errW_some] <;> rfl), by (with_reducible repeat (first | apply Kd.R_alloc | apply Kd.R_drewN | apply Kd.R_drew)); exact HO112.out, by repeat (first | (with_reducible first | exact HB.out | apply below_alloc | apply pw_below_drewN | apply below_drew1) | exact HB.out)⟩
      ·rw [if_neg c18] at H
       exact absurd H (by simp)
     ·rw [if_neg c16] at H
      exact absurd H (by simp)
    ·rw [if_neg c15] at H
     exact absurd H (by simp)
def spec_l01In.f (a0 : Int) (a1 : Int) (a2 : Int) : Option (Bool) := if a0 ≥ a1 then (some (decide (a0 ≤ a2))) else (some false)
set_option maxHeartbeats 8000000 in
set_option maxRecDepth 100000 in
theorem spec_l01In.calls (a0 : Int) (a1 : Int) (a2 : Int) (r : Bool) (w : World) (h : spec_l01In.f a0 a1 a2 = some r) :
  Calls Tryz.prog 56 #[.int .i64 a0, .int .i64 a1, .int .i64 a2] w fun e w' => e = .returned (.bool r) ∧ Drawn0 w w' := by
 have H : (if a0 ≥ a1 then (some (decide (a0 ≤ a2))) else (some false)) = some r := h
 clear h
 by_cases c4 : a0 ≥ a1
 ·rw [if_pos c4] at H
  have c4b0 : decide (a1 ≤ a0) = true := decide_eq_true c4
  clear c4
  obtain rfl := Option.some.inj H
  go_enter Tryz.func56, Tryz.ntmps56
  go_wp2
  go_ret
  exact zs1
 ·rw [if_neg c4] at H
  have c4b0 : decide (a1 ≤ a0) = false := decide_eq_false c4
  clear c4
  obtain rfl := Option.some.inj H
  go_enter Tryz.func56, Tryz.ntmps56
  go_wp2
  go_ret
  exact zs1
def spec_l01Letter.f (a0 : Int) : Option (Bool) := (spec_l01In.f (wrap64 (a0)) 97 122).bind fun t115 => (if t115 = true then (some true) else ((spec_l01In.f (wrap64 (a0)) 48 57).bind fun t116 => (some t116)))
set_option maxHeartbeats 8000000 in
set_option maxRecDepth 100000 in
theorem spec_l01Letter.calls (a0 : Int) (r : Bool) (w : World) (h : spec_l01Letter.f a0 = some r) :
  Calls Tryz.prog 64 #[.int .u8 a0] w fun e w' => e = .returned (.bool r) ∧ Drawn0 w w' := by
 have H : ((spec_l01In.f (wrap64 (a0)) 97 122).bind fun t115 => (if t115 = true then (some true) else ((spec_l01In.f (wrap64 (a0)) 48 57).bind fun t116 => (some t116)))) = some r := h
 clear h
 replace H := Option.bind_eq_some_iff.mp H
 obtain ⟨t115, A20, H⟩ := H
 replace H : (if t115 = true then (some true) else ((spec_l01In.f (wrap64 (a0)) 48 57).bind fun t116 => (some t116))) = some r := H
 have A2 := Aside0.mk A20
 clear A20
 by_cases c3 : t115 = true
 ·subst c3
  have H1 : (some true) = some r := by rw [if_pos rfl] at H; exact H
  clear H
  have H := H1
  clear H1
  obtain rfl := Option.some.inj H
  go_enter Tryz.func64, Tryz.ntmps64
  go_wp2_with (first | ((with_reducible refine gate_callee (f := 56) rfl ?_); refine goesL_ (some 5) rfl rfl Tryz.func56 zb6 rfl #[.int .i64 (wrap64 (a0)), .int .i64 97, .int .i64 122] rfl zb1 ?_; (with_reducible refine (spec_l01In.calls (wrap64 (a0)) 97 122 true _ A2.out).mono ?_); rintro e w' ⟨rfl, ⟨nd, rfl⟩⟩; refine ⟨_, rfl, ?_⟩))
  go_ret
  exact zs1
 ·replace c3 := Bool.eq_false_iff.mpr c3
  subst c3
  have H1 : ((spec_l01In.f (wrap64 (a0)) 48 57).bind fun t116 => (some t116)) = some r := by rw [if_neg (show ¬ (false = true) by decide)] at H; exact H
  clear H
  have H := H1
  clear H1
  replace H := Option.bind_eq_some_iff.mp H
  obtain ⟨t116, A40, H⟩ := H
  replace H : (some t116) = some r := H
  have A4 := Aside0.mk A40
  clear A40
  obtain rfl := Option.some.inj H
  go_enter Tryz.func64, Tryz.ntmps64
  go_wp2_with (first | ((with_reducible refine gate_callee (f := 56) rfl ?_); refine goesL_ (some 5) rfl rfl Tryz.func56 zb6 rfl #[.int .i64 (wrap64 (a0)), .int .i64 97, .int .i64 122] rfl zb1 ?_; (with_reducible refine (spec_l01In.calls (wrap64 (a0)) 97 122 false _ A2.out).mono ?_); rintro e w' ⟨rfl, ⟨nd, rfl⟩⟩; refine ⟨_, rfl, ?_⟩) | (go_at_call 56; (with_reducible refine (spec_l01In.calls (wrap64 (a0)) 48 57 t116 _ A4.out).mono ?_); rintro e w' ⟨rfl, ⟨nd, rfl⟩⟩))
  go_ret
  exact zs1
mutual
def spec_NameOk.l0 : Nat → ByteArray → List ByteArray → Int → Option (Bool)
 | 0, _, _, _ => none
 | k + 1, x0, x3, x4 => if x4 < (x3.length : Int) then (if 0 ≤ x4 then (if (rdOf ByteArray.empty x3 x4).toList = ([110, 111, 100, 101, 95, 109, 111, 100, 117, 108, 101, 115] : List UInt8) then (some false) else (if x4 = 0 then (if ((rdOf ByteArray.empty x3 x4).size : Int) > 0 then (if 0 < ((rdOf ByteArray.empty x3 x4).size : Int) then (spec_NameOk.j1 k x0 x3 x4 (rdOf ByteArray.empty x3 x4) ((bt (rdOf ByteArray.empty x3 x4) 0) == 64)) else (none)) else (spec_NameOk.j1 k x0 x3 x4 (rdOf ByteArray.empty x3 x4) false)) else (spec_NameOk.j1 k x0 x3 x4 (rdOf ByteArray.empty x3 x4) false))) else (none)) else (some (decide ((x0.size : Int) ≤ 60)))
def spec_NameOk.j1 : Nat → ByteArray → List ByteArray → Int → ByteArray → Bool → Option (Bool)
 | 0, _, _, _, _, _ => none
 | k + 1, x0, x3, x4, x5, x32 => if x32 = true then (if 1 ≤ (x5.size : Int) then (spec_NameOk.j2 k x0 x3 x4 (x5.extract 1 x5.size)) else (none)) else (spec_NameOk.j2 k x0 x3 x4 x5)
def spec_NameOk.j2 : Nat → ByteArray → List ByteArray → Int → ByteArray → Option (Bool)
 | 0, _, _, _, _ => none
 | k + 1, x0, x3, x4, x5 => spec_NameOk.l1 k x0 x3 x4 x5 0
def spec_NameOk.l1 : Nat → ByteArray → List ByteArray → Int → ByteArray → Int → Option (Bool)
 | 0, _, _, _, _, _ => none
 | k + 1, x0, x3, x4, x5, x6 => if x6 < (x5.size : Int) then (if 0 ≤ x6 then ((spec_l01Letter.f (bt x5 x6)).bind fun t484 => (if t484 = true then (spec_NameOk.l1 k x0 x3 x4 x5 (wrap64 (x6 + 1))) else (if (bt x5 x6) = 46 then (spec_NameOk.l1 k x0 x3 x4 x5 (wrap64 (x6 + 1))) else (if (bt x5 x6) = 95 then (spec_NameOk.l1 k x0 x3 x4 x5 (wrap64 (x6 + 1))) else (if (bt x5 x6) = 45 then (spec_NameOk.l1 k x0 x3 x4 x5 (wrap64 (x6 + 1))) else (some false)))))) else (none)) else (if x5.toList = ([] : List UInt8) then (some false) else (spec_NameOk.l0 k x0 x3 (wrap64 (x4 + 1))))
end
def spec_NameOk.f (k : Nat) (a0 : ByteArray) : Option (Bool) := (spec_l01Cut.f k a0 47).bind fun t480 => (spec_NameOk.l0 k a0 t480 0)
set_option maxHeartbeats 8000000 in
set_option maxRecDepth 100000 in
theorem spec_NameOk.calls (k : Nat) (a0 : ByteArray) (r : Bool) (w : World) (h : spec_NameOk.f k a0 = some r) :
  Calls Tryz.prog 37 #[.string a0] w fun e w' => e = .returned (.bool r) ∧ Below w.heap.size w w' := by
 have HB := Aside0.mk (Below.refl w.heap.size w)
 have H : ((spec_l01Cut.f k a0 47).bind fun t480 => (spec_NameOk.l0 k a0 t480 0)) = some r := h
 clear h
 replace H := Option.bind_eq_some_iff.mp H
 obtain ⟨t480, A20, H⟩ := H
 replace H : (spec_NameOk.l0 k a0 t480 0) = some r := H
 have A2 := Aside0.mk A20
 clear A20
 have H' := Aside0.mk H
 clear H
 go_enter Tryz.func37, Tryz.ntmps37
 go_wp2_with (first | ((with_reducible refine gate_callee (f := 52) rfl ?_); refine goesL_ (some 8) rfl rfl Tryz.func52 zb6 rfl #[.string a0, .int .u8 47] rfl zb1 ?_; (with_reducible refine (spec_l01Cut.calls k a0 47 t480 _ A2.out).mono ?_); rintro e w3 ⟨v481, rfl, ho0, hb⟩; refine ⟨_, rfl, ?_⟩; have n0_ := Aside0.mk (Kd.R_lower ho0 (below_size zb0)); have n1_ := Aside0.mk (below_step zb0 hb); clear HB; have HO482 := n0_; have HB := n1_; clear n0_ n1_; (try clear hb); (try clear ho0)))
 go_loopg [4] k (fun kq v4 w' => ∃ (x4_1 : Int), v4 = .int .i64 x4_1 ∧ Aside0 (spec_NameOk.l0 kq a0 t480 x4_1 = some r) ∧ Aside0 (kq ≤ k) ∧ Aside0 (Kd.R Kd.string 9 w' w.heap.size (fun _ => True) v481 t480) ∧ Aside0 (Below w.heap.size w w'))
 case atStart => exact ⟨(0), zb5, H', ⟨Nat.le_refl _⟩, ⟨by (with_reducible repeat (first | apply Kd.R_alloc | apply Kd.R_drewN | apply Kd.R_drew)); exact HO482.out⟩, ⟨by repeat (first | (with_reducible first | exact HB.out | apply below_alloc | apply pw_below_drewN | apply below_drew1) | exact HB.out)⟩⟩
 case round =>
  clear H'
  try clear p2
  try clear c3
  obtain ⟨x4_1, rfl, HA, HK1, HO_3, HB⟩ := hrel
  cases gk with
  | zero => exact absurd HA.out (by simp [spec_NameOk.l0])
  | succ k1 =>
   have H := HA.out
   clear HA
   simp only [spec_NameOk.l0] at H
   by_cases c4 : x4_1 < (t480.length : Int)
   ·rw [if_pos c4] at H
    have c4b0 : decide (x4_1 < (t480.length : Int)) = true := decide_eq_true c4
    clear c4
    by_cases c5 : 0 ≤ x4_1
    ·rw [if_pos c5] at H
     have c5b0 : decide (0 ≤ x4_1) = true := decide_eq_true c5
     clear c5
     by_cases c6 : (rdOf ByteArray.empty t480 x4_1).toList = ([110, 111, 100, 101, 95, 109, 111, 100, 117, 108, 101, 115] : List UInt8)
     ·rw [if_pos c6] at H
      have c6b0 : ((rdOf ByteArray.empty t480 x4_1).toList == ([110, 111, 100, 101, 95, 109, 111, 100, 117, 108, 101, 115] : List UInt8)) = true := beq_iff_eq.mpr c6
      have c6b1 : ((rdOf ByteArray.empty t480 x4_1).toList != ([110, 111, 100, 101, 95, 109, 111, 100, 117, 108, 101, 115] : List UInt8)) = false := bne_eq_false_iff_eq.mpr c6
      clear c6
      obtain rfl := Option.some.inj H
      obtain ⟨Ao7, co7, eo7⟩ := Kd.R_slice HO_3.out
      subst eo7
      have p483 : 0 ≤ (x4_1 : Int) := of_decide_eq_true zb2
      have q483 : x4_1 < (t480.length : Int) := of_decide_eq_true zb2
      obtain ⟨ad483, e483, hx483_0⟩ := Kd.at_string (Kd.R_reads' HO_3.out).2.2 x4_1 p483 q483
      cases e483
      replace p483 := eq_true p483
      replace q483 := eq_true q483
      go_wp2
      go_ret
      exact zs3
     ·rw [if_neg c6] at H
      have c6b0 : ((rdOf ByteArray.empty t480 x4_1).toList == ([110, 111, 100, 101, 95, 109, 111, 100, 117, 108, 101, 115] : List UInt8)) = false := beq_eq_false_iff_ne.mpr c6
      have c6b1 : ((rdOf ByteArray.empty t480 x4_1).toList != ([110, 111, 100, 101, 95, 109, 111, 100, 117, 108, 101, 115] : List UInt8)) = true := bne_iff_ne.mpr c6
      have HC8 := Aside0.mk H
      clear H
      obtain ⟨Ao9, co9, eo9⟩ := Kd.R_slice HO_3.out
      subst eo9
      have p483 : 0 ≤ (x4_1 : Int) := of_decide_eq_true zb2
      have q483 : x4_1 < (t480.length : Int) := of_decide_eq_true zb2
      obtain ⟨ad483, e483, hx483_0⟩ := Kd.at_string (Kd.R_reads' HO_3.out).2.2 x4_1 p483 q483
      cases e483
      replace p483 := eq_true p483
      replace q483 := eq_true q483
      go_upto_region 8 with (fail)
      go_cut [32] (fun v32 wc => ∃ (kq : Nat) (x32_7 : Bool), v32 = .bool x32_7 ∧ Aside0 (spec_NameOk.j1 kq a0 t480 x4_1 (rdOf ByteArray.empty t480 x4_1) x32_7 = some r) ∧ Aside0 (kq ≤ k1) ∧ Aside0 (Kd.R Kd.string 9 wc w.heap.size (fun _ => True) (.slice (some ad483) t480.length co9) t480) ∧ Aside0 (Below w.heap.size w wc))
      case first =>
       have H := HC8.out
       clear HC8
       by_cases c10 : x4_1 = 0
       ·rw [if_pos c10] at H
        have c10b0 : (x4_1 == 0) = true := beq_iff_eq.mpr c10
        have c10b1 : (x4_1 != 0) = false := bne_eq_false_iff_eq.mpr c10
        clear c10
        (first | rw [c10b0] | (simp only [i64_w, i32_w]; rw [c10b0]) | skip)
        by_cases c11 : ((rdOf ByteArray.empty t480 x4_1).size : Int) > 0
        ·rw [if_pos c11] at H
         have c11b0 : decide (0 < ((rdOf ByteArray.empty t480 x4_1).size : Int)) = true := decide_eq_true c11
         have c11b1 : decide (0 < (rdOf ByteArray.empty t480 x4_1).size) = true := decide_eq_true (by omega)
         clear c11
         by_cases c12 : 0 < ((rdOf ByteArray.empty t480 x4_1).size : Int)
         ·rw [if_pos c12] at H
          have c12b0 : decide (0 < ((rdOf ByteArray.empty t480 x4_1).size : Int)) = true := decide_eq_true c12
          have c12b1 : decide (0 < (rdOf ByteArray.empty t480 x4_1).size) = true := decide_eq_true (by omega)
          clear c12
          have H' := Aside0.mk H
          clear H
          have p13 : 0 ≤ (0 : Int) := (by omega)
          have q13 : 0 < (rdOf ByteArray.empty t480 x4_1).size := (by have : (0 : Int) < ((rdOf ByteArray.empty t480 x4_1).size : Int) := of_decide_eq_true zb2; omega)
          have hx13 : ∀ h : 0 < (rdOf ByteArray.empty t480 x4_1).size, (((rdOf ByteArray.empty t480 x4_1)[0]'h).toNat : Int) = bt (rdOf ByteArray.empty t480 x4_1) 0 := bt_at (rdOf ByteArray.empty t480 x4_1) 0
          clear p13
          have qi13 : (0 < ((rdOf ByteArray.empty t480 x4_1).size : Int)) = True := eq_true (of_decide_eq_true zb2)
          replace q13 := eq_true q13
          go_wp2
          go_meet
          case rel => exact ⟨_, (((bt (rdOf ByteArray.empty t480 x4_1) 0) == 64)), zb5, H', ⟨by have := HK1.out; first | omega | exact Nat.le_refl _⟩, ⟨by (with_reducible repeat (first | apply Kd.R_alloc | apply Kd.R_drewN | apply Kd.R_drew)); exact HO_3.out⟩, ⟨by repeat (first | (with_reducible first | exact HB.out | apply below_alloc | apply pw_below_drewN | apply below_drew1) | exact HB.out)⟩⟩
         ·rw [if_neg c12] at H
          exact absurd H (by simp)
        ·rw [if_neg c11] at H
         have c11b0 : decide (0 < ((rdOf ByteArray.empty t480 x4_1).size : Int)) = false := decide_eq_false c11
         have c11b1 : decide (0 < (rdOf ByteArray.empty t480 x4_1).size) = false := decide_eq_false (by omega)
         clear c11
         have H' := Aside0.mk H
         clear H
         go_wp2
         go_meet
         case rel => exact ⟨_, (false), zb5, H', ⟨by have := HK1.out; first | omega | exact Nat.le_refl _⟩, ⟨by (with_reducible repeat (first | apply Kd.R_alloc | apply Kd.R_drewN | apply Kd.R_drew)); exact HO_3.out⟩, ⟨by repeat (first | (with_reducible first | exact HB.out | apply below_alloc | apply pw_below_drewN | apply below_drew1) | exact HB.out)⟩⟩
       ·rw [if_neg c10] at H
        have c10b0 : (x4_1 == 0) = false := beq_eq_false_iff_ne.mpr c10
        have c10b1 : (x4_1 != 0) = true := bne_iff_ne.mpr c10
        (first | rw [c10b0] | (simp only [i64_w, i32_w]; rw [c10b0]) | skip)
        have H' := Aside0.mk H
        clear H
        go_wp2
        go_meet
        case rel => exact ⟨_, (false), zb5, H', ⟨by have := HK1.out; first | omega | exact Nat.le_refl _⟩, ⟨by (with_reducible repeat (first | apply Kd.R_alloc | apply Kd.R_drewN | apply Kd.R_drew)); exact HO_3.out⟩, ⟨by repeat (first | (with_reducible first | exact HB.out | apply below_alloc | apply pw_below_drewN | apply below_drew1) | exact HB.out)⟩⟩
      case rest =>
       clear HC8
       try clear c1
       try clear p1
       try clear q1
       try clear hx1
       try clear qi1
       try clear p2
       try clear c3
       try clear c4
       try clear c4b0
       try clear p4
       try clear q4
       try clear hx4
       try clear c5
       try clear c5b0
       try clear c6
       try clear c6b0
       try clear c6b1
       try clear c10
       try clear c10b0
       try clear c10b1
       try clear c11
       try clear c11b0
       try clear c11b1
       try clear c12
       try clear c12b0
       try clear c12b1
       try clear p13
       try clear q13
       try clear hx13
       try clear qi13
       try clear hx483_0
       try clear p13
       try clear p2
       try clear p483
       try clear q13
       try clear q483
       obtain ⟨kq, x32_7, rfl, HA, HJ7, HO_3, HB⟩ := hcut
       cases kq with
       | zero => exact absurd HA.out (by simp [spec_NameOk.j1])
       | succ kj7 =>
        have H := HA.out
        clear HA
        simp only [spec_NameOk.j1] at H
        have HC14 := Aside0.mk H
        clear H
        go_upto_if 32 with (fail)
        go_cut [5] (fun v5 wc => ∃ (kq : Nat) (x5_13 : ByteArray), v5 = .string x5_13 ∧ Aside0 (spec_NameOk.j2 kq a0 t480 x4_1 x5_13 = some r) ∧ Aside0 (kq ≤ kj7) ∧ Aside0 (Kd.R Kd.string 9 wc w.heap.size (fun _ => True) (.slice (some ad483) t480.length co9) t480) ∧ Aside0 (Below w.heap.size w wc))
        case first =>
         have H := HC14.out
         clear HC14
         by_cases c15 : x32_7 = true
         ·subst c15
          have H1 : (if 1 ≤ ((rdOf ByteArray.empty t480 x4_1).size : Int) then (spec_NameOk.j2 kj7 a0 t480 x4_1 ((rdOf ByteArray.empty t480 x4_1).extract 1 (rdOf ByteArray.empty t480 x4_1).size)) else (none)) = some r := by rw [if_pos rfl] at H; exact H
          clear H
          have H := H1
          clear H1
          by_cases c16 : 1 ≤ ((rdOf ByteArray.empty t480 x4_1).size : Int)
          ·rw [if_pos c16] at H
           have c16b0 := eq_true c16
           have c16b1 : decide (1 ≤ ((rdOf ByteArray.empty t480 x4_1).size : Int)) = true := decide_eq_true c16
           clear c16
           obtain ⟨js17, hjs17⟩ : ∃ j_ : ByteArray, ((rdOf ByteArray.empty t480 x4_1).extract 1 (rdOf ByteArray.empty t480 x4_1).size) = j_ := ⟨_, rfl⟩
           replace H : (spec_NameOk.j2 kj7 a0 t480 x4_1 js17) = some r := by first | (rw [hjs17] at H; exact H) | (simp only [hjs17] at H ⊢; exact H)
           have H' := Aside0.mk H
           clear H
           go_wp2
           go_meet
           case rel => exact ⟨_, (js17), (by first | rfl | (simp; done) | (simp only [← hjs17] <;> (first | rfl | simp)) | (simp [*]; done)), H', ⟨by have := HK1.out; have := HJ7.out; first | omega | exact Nat.le_refl _⟩, ⟨by (with_reducible repeat (first | apply Kd.R_alloc | apply Kd.R_drewN | apply Kd.R_drew)); exact HO_3.out⟩, ⟨by repeat (first | (with_reducible first | exact HB.out | apply below_alloc | apply pw_below_drewN | apply below_drew1) | exact HB.out)⟩⟩
          ·rw [if_neg c16] at H
           exact absurd H (by simp)
         ·replace c15 := Bool.eq_false_iff.mpr c15
          subst c15
          have H1 : (spec_NameOk.j2 kj7 a0 t480 x4_1 (rdOf ByteArray.empty t480 x4_1)) = some r := by rw [if_neg (show ¬ (false = true) by decide)] at H; exact H
          clear H
          have H := H1
          clear H1
          have H' := Aside0.mk H
          clear H
          go_wp2
          go_meet
          case rel => exact ⟨_, ((rdOf ByteArray.empty t480 x4_1)), zb5, H', ⟨by have := HK1.out; have := HJ7.out; first | omega | exact Nat.le_refl _⟩, ⟨by (with_reducible repeat (first | apply Kd.R_alloc | apply Kd.R_drewN | apply Kd.R_drew)); exact HO_3.out⟩, ⟨by repeat (first | (with_reducible first | exact HB.out | apply below_alloc | apply pw_below_drewN | apply below_drew1) | exact HB.out)⟩⟩
        case rest =>
         clear HC14
         try clear c1
         try clear p1
         try clear q1
         try clear hx1
         try clear qi1
         try clear p2
         try clear c3
         try clear c4
         try clear c4b0
         try clear p4
         try clear q4
         try clear hx4
         try clear c5
         try clear c5b0
         try clear c6
         try clear c6b0
         try clear c6b1
         try clear c10
         try clear c10b0
         try clear c10b1
         try clear c11
         try clear c11b0
         try clear c11b1
         try clear c12
         try clear c12b0
         try clear c12b1
         try clear p13
         try clear q13
         try clear hx13
         try clear qi13
         try clear c15
         try clear c16
         try clear c16b0
         try clear c16b1
         try clear hx483_0
         try clear p1
         try clear p13
         try clear p2
         try clear p4
         try clear p483
         try clear q1
         try clear q13
         try clear q4
         try clear q483
         obtain ⟨kq, x5_13, rfl, HA, HJ13, HO_3, HB⟩ := hcut
         cases kq with
         | zero => exact absurd HA.out (by simp [spec_NameOk.j2])
         | succ kj13 =>
          have H := HA.out
          clear HA
          simp only [spec_NameOk.j2] at H
          have H' := Aside0.mk H
          clear H
          go_wp2
          go_loopg [6] kj13 (fun kq v6 w' => ∃ (x6_4 : Int), v6 = .int .i64 x6_4 ∧ Aside0 (spec_NameOk.l1 kq a0 t480 x4_1 x5_13 x6_4 = some r) ∧ Aside0 (kq ≤ kj13) ∧ Aside0 (Kd.R Kd.string 9 w' w.heap.size (fun _ => True) (.slice (some ad483) t480.length co9) t480) ∧ Aside0 (Below w.heap.size w w'))
          case atStart => exact ⟨(0), zb5, H', ⟨Nat.le_refl _⟩, ⟨by (with_reducible repeat (first | apply Kd.R_alloc | apply Kd.R_drewN | apply Kd.R_drew)); exact HO_3.out⟩, ⟨by repeat (first | (with_reducible first | exact HB.out | apply below_alloc | apply pw_below_drewN | apply below_drew1) | exact HB.out)⟩⟩
          case round =>
           clear H'
           try clear c1
           try clear p1
           try clear q1
           try clear hx1
           try clear qi1
           try clear p2
           try clear c3
           try clear c4
           try clear c4b0
           try clear p4
           try clear q4
           try clear hx4
           try clear c5
           try clear c5b0
           try clear c6
           try clear c6b0
           try clear c6b1
           try clear c10
           try clear c10b0
           try clear c10b1
           try clear c11
           try clear c11b0
           try clear c11b1
           try clear c12
           try clear c12b0
           try clear c12b1
           try clear p13
           try clear q13
           try clear hx13
           try clear qi13
           try clear c15
           try clear c16
           try clear c16b0
           try clear c16b1
           try clear hx483_0
           try clear p1
           try clear p13
           try clear p2
           try clear p4
           try clear p483
           try clear q1
           try clear q13
           try clear q4
           try clear q483
           obtain ⟨x6_4, rfl, HA, HK4, HO_3, HB⟩ := hrel
           cases gk with
           | zero => exact absurd HA.out (by simp [spec_NameOk.l1])
           | succ k4 =>
            have H := HA.out
            clear HA
            simp only [spec_NameOk.l1] at H
            by_cases c18 : x6_4 < (x5_13.size : Int)
            ·rw [if_pos c18] at H
             have c18b0 : decide (x6_4 < (x5_13.size : Int)) = true := decide_eq_true c18
             clear c18
             by_cases c19 : 0 ≤ x6_4
             ·rw [if_pos c19] at H
              have c19b0 : decide (0 ≤ x6_4) = true := decide_eq_true c19
              clear c19
              replace H := Option.bind_eq_some_iff.mp H
              obtain ⟨t484, A210, H⟩ := H
              replace H : (if t484 = true then (spec_NameOk.l1 k4 a0 t480 x4_1 x5_13 (wrap64 (x6_4 + 1))) else (if (bt x5_13 x6_4) = 46 then (spec_NameOk.l1 k4 a0 t480 x4_1 x5_13 (wrap64 (x6_4 + 1))) else (if (bt x5_13 x6_4) = 95 then (spec_NameOk.l1 k4 a0 t480 x4_1 x5_13 (wrap64 (x6_4 + 1))) else (if (bt x5_13 x6_4) = 45 then (spec_NameOk.l1 k4 a0 t480 x4_1 x5_13 (wrap64 (x6_4 + 1))) else (some false))))) = some r := H
              have A21 := Aside0.mk A210
              clear A210
              by_cases c22 : t484 = true
              ·subst c22
               have H1 : (spec_NameOk.l1 k4 a0 t480 x4_1 x5_13 (wrap64 (x6_4 + 1))) = some r := by rw [if_pos rfl] at H; exact H
               clear H
               have H := H1
               clear H1
               have H' := Aside0.mk H
               clear H
               have p20 : 0 ≤ (x6_4 : Int) := of_decide_eq_true zb2
               have q20 : x6_4 < (x5_13.size : Int) := of_decide_eq_true zb2
               have hx20 := bt_at x5_13 x6_4
               replace p20 := eq_true p20
               replace q20 := eq_true q20
               go_wp2_with (first | ((with_reducible refine gate_callee (f := 64) rfl ?_); refine goesL_ (some 44) rfl rfl Tryz.func64 zb6 rfl #[.int .u8 (bt x5_13 x6_4)] rfl zb1 ?_; (with_reducible refine (spec_l01Letter.calls (bt x5_13 x6_4) true _ A21.out).mono ?_); rintro e w' ⟨rfl, ⟨nd, rfl⟩⟩; refine ⟨_, rfl, ?_⟩))
               go_roundg k4
               case measure => have := HK1.out; have := HJ7.out; have := HJ13.out; have := HK4.out; omega
               case rel => exact ⟨(wrap64 (x6_4 + 1)), zb5, H', ⟨by have := HK1.out; have := HJ7.out; have := HJ13.out; have := HK4.out; omega⟩, ⟨by (with_reducible repeat (first | apply Kd.R_alloc | apply Kd.R_drewN | apply Kd.R_drew)); exact HO_3.out⟩, ⟨by repeat (first | (with_reducible first | exact HB.out | apply below_alloc | apply pw_below_drewN | apply below_drew1) | exact HB.out)⟩⟩
              ·replace c22 := Bool.eq_false_iff.mpr c22
               subst c22
               have H1 : (if (bt x5_13 x6_4) = 46 then (spec_NameOk.l1 k4 a0 t480 x4_1 x5_13 (wrap64 (x6_4 + 1))) else (if (bt x5_13 x6_4) = 95 then (spec_NameOk.l1 k4 a0 t480 x4_1 x5_13 (wrap64 (x6_4 + 1))) else (if (bt x5_13 x6_4) = 45 then (spec_NameOk.l1 k4 a0 t480 x4_1 x5_13 (wrap64 (x6_4 + 1))) else (some false)))) = some r := by rw [if_neg (show ¬ (false = true) by decide)] at H; exact H
               clear H
               have H := H1
               clear H1
               by_cases c24 : (bt x5_13 x6_4) = 46
               ·rw [if_pos c24] at H
                have c24b0 : ((bt x5_13 x6_4) == 46) = true := beq_iff_eq.mpr c24
                have c24b1 : ((bt x5_13 x6_4) != 46) = false := bne_eq_false_iff_eq.mpr c24
                clear c24
                have H' := Aside0.mk H
                clear H
                have p20 : 0 ≤ (x6_4 : Int) := of_decide_eq_true zb2
                have q20 : x6_4 < (x5_13.size : Int) := of_decide_eq_true zb2
                have hx20 := bt_at x5_13 x6_4
                replace p20 := eq_true p20
                replace q20 := eq_true q20
                go_wp2_with (first | ((with_reducible refine gate_callee (f := 64) rfl ?_); refine goesL_ (some 44) rfl rfl Tryz.func64 zb6 rfl #[.int .u8 (bt x5_13 x6_4)] rfl zb1 ?_; (with_reducible refine (spec_l01Letter.calls (bt x5_13 x6_4) false _ A21.out).mono ?_); rintro e w' ⟨rfl, ⟨nd, rfl⟩⟩; refine ⟨_, rfl, ?_⟩; have p23 : 0 ≤ (x6_4 : Int) := of_decide_eq_true zb2; have q23 : x6_4 < (x5_13.size : Int) := of_decide_eq_true zb2; have hx23 := bt_at x5_13 x6_4; replace p23 := eq_true p23; replace q23 := eq_true q23))
                go_roundg k4
                case measure => have := HK1.out; have := HJ7.out; have := HJ13.out; have := HK4.out; omega
                case rel => exact ⟨(wrap64 (x6_4 + 1)), zb5, H', ⟨by have := HK1.out; have := HJ7.out; have := HJ13.out; have := HK4.out; omega⟩, ⟨by (with_reducible repeat (first | apply Kd.R_alloc | apply Kd.R_drewN | apply Kd.R_drew)); exact HO_3.out⟩, ⟨by repeat (first | (with_reducible first | exact HB.out | apply below_alloc | apply pw_below_drewN | apply below_drew1) | exact HB.out)⟩⟩
               ·rw [if_neg c24] at H
                have c24b0 : ((bt x5_13 x6_4) == 46) = false := beq_eq_false_iff_ne.mpr c24
                have c24b1 : ((bt x5_13 x6_4) != 46) = true := bne_iff_ne.mpr c24
                by_cases c26 : (bt x5_13 x6_4) = 95
                ·rw [if_pos c26] at H
                 have c26b0 : ((bt x5_13 x6_4) == 95) = true := beq_iff_eq.mpr c26
                 have c26b1 : ((bt x5_13 x6_4) != 95) = false := bne_eq_false_iff_eq.mpr c26
                 clear c26
                 have H' := Aside0.mk H
                 clear H
                 have p20 : 0 ≤ (x6_4 : Int) := of_decide_eq_true zb2
                 have q20 : x6_4 < (x5_13.size : Int) := of_decide_eq_true zb2
                 have hx20 := bt_at x5_13 x6_4
                 replace p20 := eq_true p20
                 replace q20 := eq_true q20
                 go_wp2_with (first | ((with_reducible refine gate_callee (f := 64) rfl ?_); refine goesL_ (some 44) rfl rfl Tryz.func64 zb6 rfl #[.int .u8 (bt x5_13 x6_4)] rfl zb1 ?_; (with_reducible refine (spec_l01Letter.calls (bt x5_13 x6_4) false _ A21.out).mono ?_); rintro e w' ⟨rfl, ⟨nd, rfl⟩⟩; refine ⟨_, rfl, ?_⟩; have p23 : 0 ≤ (x6_4 : Int) := of_decide_eq_true zb2; have q23 : x6_4 < (x5_13.size : Int) := of_decide_eq_true zb2; have hx23 := bt_at x5_13 x6_4; replace p23 := eq_true p23; replace q23 := eq_true q23; have p25 : 0 ≤ (x6_4 : Int) := of_decide_eq_true zb2; have q25 : x6_4 < (x5_13.size : Int) := of_decide_eq_true zb2; have hx25 := bt_at x5_13 x6_4; replace p25 := eq_true p25; replace q25 := eq_true q25))
                 go_roundg k4
                 case measure => have := HK1.out; have := HJ7.out; have := HJ13.out; have := HK4.out; omega
                 case rel => exact ⟨(wrap64 (x6_4 + 1)), zb5, H', ⟨by have := HK1.out; have := HJ7.out; have := HJ13.out; have := HK4.out; omega⟩, ⟨by (with_reducible repeat (first | apply Kd.R_alloc | apply Kd.R_drewN | apply Kd.R_drew)); exact HO_3.out⟩, ⟨by repeat (first | (with_reducible first | exact HB.out | apply below_alloc | apply pw_below_drewN | apply below_drew1) | exact HB.out)⟩⟩
                ·rw [if_neg c26] at H
                 have c26b0 : ((bt x5_13 x6_4) == 95) = false := beq_eq_false_iff_ne.mpr c26
                 have c26b1 : ((bt x5_13 x6_4) != 95) = true := bne_iff_ne.mpr c26
                 by_cases c28 : (bt x5_13 x6_4) = 45
                 ·rw [if_pos c28] at H
                  have c28b0 : ((bt x5_13 x6_4) == 45) = true := beq_iff_eq.mpr c28
                  have c28b1 : ((bt x5_13 x6_4) != 45) = false := bne_eq_false_iff_eq.mpr c28
                  clear c28
                  have H' := Aside0.mk H
                  clear H
                  have p20 : 0 ≤ (x6_4 : Int) := of_decide_eq_true zb2
                  have q20 : x6_4 < (x5_13.size : Int) := of_decide_eq_true zb2
                  have hx20 := bt_at x5_13 x6_4
                  replace p20 := eq_true p20
                  replace q20 := eq_true q20
                  go_wp2_with (first | ((with_reducible refine gate_callee (f := 64) rfl ?_); refine goesL_ (some 44) rfl rfl Tryz.func64 zb6 rfl #[.int .u8 (bt x5_13 x6_4)] rfl zb1 ?_; (with_reducible refine (spec_l01Letter.calls (bt x5_13 x6_4) false _ A21.out).mono ?_); rintro e w' ⟨rfl, ⟨nd, rfl⟩⟩; refine ⟨_, rfl, ?_⟩; have p23 : 0 ≤ (x6_4 : Int) := of_decide_eq_true zb2; have q23 : x6_4 < (x5_13.size : Int) := of_decide_eq_true zb2; have hx23 := bt_at x5_13 x6_4; replace p23 := eq_true p23; replace q23 := eq_true q23; have p25 : 0 ≤ (x6_4 : Int) := of_decide_eq_true zb2; have q25 : x6_4 < (x5_13.size : Int) := of_decide_eq_true zb2; have hx25 := bt_at x5_13 x6_4; replace p25 := eq_true p25; replace q25 := eq_true q25; have p27 : 0 ≤ (x6_4 : Int) := of_decide_eq_true zb2; have q27 : x6_4 < (x5_13.size : Int) := of_decide_eq_true zb2; have hx27 := bt_at x5_13 x6_4; replace p27 := eq_true p27; replace q27 := eq_true q27))
                  go_roundg k4
                  case measure => have := HK1.out; have := HJ7.out; have := HJ13.out; have := HK4.out; omega
                  case rel => exact ⟨(wrap64 (x6_4 + 1)), zb5, H', ⟨by have := HK1.out; have := HJ7.out; have := HJ13.out; have := HK4.out; omega⟩, ⟨by (with_reducible repeat (first | apply Kd.R_alloc | apply Kd.R_drewN | apply Kd.R_drew)); exact HO_3.out⟩, ⟨by repeat (first | (with_reducible first | exact HB.out | apply below_alloc | apply pw_below_drewN | apply below_drew1) | exact HB.out)⟩⟩
                 ·rw [if_neg c28] at H
                  have c28b0 : ((bt x5_13 x6_4) == 45) = false := beq_eq_false_iff_ne.mpr c28
                  have c28b1 : ((bt x5_13 x6_4) != 45) = true := bne_iff_ne.mpr c28
                  obtain rfl := Option.some.inj H
                  have p20 : 0 ≤ (x6_4 : Int) := of_decide_eq_true zb2
                  have q20 : x6_4 < (x5_13.size : Int) := of_decide_eq_true zb2
                  have hx20 := bt_at x5_13 x6_4
                  replace p20 := eq_true p20
                  replace q20 := eq_true q20
                  go_wp2_with (first | ((with_reducible refine gate_callee (f := 64) rfl ?_); refine goesL_ (some 44) rfl rfl Tryz.func64 zb6 rfl #[.int .u8 (bt x5_13 x6_4)] rfl zb1 ?_; (with_reducible refine (spec_l01Letter.calls (bt x5_13 x6_4) false _ A21.out).mono ?_); rintro e w' ⟨rfl, ⟨nd, rfl⟩⟩; refine ⟨_, rfl, ?_⟩; have p23 : 0 ≤ (x6_4 : Int) := of_decide_eq_true zb2; have q23 : x6_4 < (x5_13.size : Int) := of_decide_eq_true zb2; have hx23 := bt_at x5_13 x6_4; replace p23 := eq_true p23; replace q23 := eq_true q23; have p25 : 0 ≤ (x6_4 : Int) := of_decide_eq_true zb2; have q25 : x6_4 < (x5_13.size : Int) := of_decide_eq_true zb2; have hx25 := bt_at x5_13 x6_4; replace p25 := eq_true p25; replace q25 := eq_true q25; have p27 : 0 ≤ (x6_4 : Int) := of_decide_eq_true zb2; have q27 : x6_4 < (x5_13.size : Int) := of_decide_eq_true zb2; have hx27 := bt_at x5_13 x6_4; replace p27 := eq_true p27; replace q27 := eq_true q27))
                  go_ret
                  exact zs3
             ·rw [if_neg c19] at H
              exact absurd H (by simp)
            ·rw [if_neg c18] at H
             have c18b0 : decide (x6_4 < (x5_13.size : Int)) = false := decide_eq_false c18
             clear c18
             by_cases c29 : x5_13.toList = ([] : List UInt8)
             ·rw [if_pos c29] at H
              have c29b0 : (x5_13.toList == ([] : List UInt8)) = true := beq_iff_eq.mpr c29
              have c29b1 : (x5_13.toList != ([] : List UInt8)) = false := bne_eq_false_iff_eq.mpr c29
              clear c29
              obtain rfl := Option.some.inj H
              go_wp2
              go_ret
              exact zs3
             ·rw [if_neg c29] at H
              have c29b0 : (x5_13.toList == ([] : List UInt8)) = false := beq_eq_false_iff_ne.mpr c29
              have c29b1 : (x5_13.toList != ([] : List UInt8)) = true := bne_iff_ne.mpr c29
              have H' := Aside0.mk H
              clear H
              go_wp2
              go_roundg k4
              case measure => have := HK1.out; have := HJ7.out; have := HJ13.out; have := HK4.out; omega
              case rel => exact ⟨(wrap64 (x4_1 + 1)), zb5, H', ⟨by have := HK1.out; have := HJ7.out; have := HJ13.out; have := HK4.out; omega⟩, ⟨by (with_reducible repeat (first | apply Kd.R_alloc | apply Kd.R_drewN | apply Kd.R_drew)); exact HO_3.out⟩, ⟨by repeat (first | (with_reducible first | exact HB.out | apply below_alloc | apply pw_below_drewN | apply below_drew1) | exact HB.out)⟩⟩
    ·rw [if_neg c5] at H
     exact absurd H (by simp)
   ·rw [if_neg c4] at H
    have c4b0 : decide (x4_1 < (t480.length : Int)) = false := decide_eq_false c4
    clear c4
    obtain rfl := Option.some.inj H
    obtain ⟨Ao30, co30, eo30⟩ := Kd.R_slice HO_3.out
    subst eo30
    go_wp2
    go_ret
    exact zs3
def spec_l01At.l0 : Nat → ByteArray → Int → Int → Option (Int)
 | 0, _, _, _ => none
 | k + 1, x0, x1, x5 => if x5 < (x0.size : Int) then (if 0 ≤ x5 then (if (bt x0 x5) = x1 then (some x5) else (spec_l01At.l0 k x0 x1 (wrap64 (x5 + 1)))) else (none)) else (some (-1))
def spec_l01At.f (k : Nat) (a0 : ByteArray) (a1 : Int) : Option (Int) := spec_l01At.l0 k a0 a1 0
set_option maxHeartbeats 8000000 in
set_option maxRecDepth 100000 in
theorem spec_l01At.calls (k : Nat) (a0 : ByteArray) (a1 : Int) (r : Int) (w : World) (h : spec_l01At.f k a0 a1 = some r) :
  Calls Tryz.prog 46 #[.string a0, .int .u8 a1] w fun e w' => e = .returned (.int .i64 r) ∧ Drawn0 w w' := by
 have H : (spec_l01At.l0 k a0 a1 0) = some r := h
 clear h
 have H' := Aside0.mk H
 clear H
 go_enter Tryz.func46, Tryz.ntmps46
 go_wp2
 go_loopg [5] k (fun kq v5 w' => ∃ (x5_1 : Int), v5 = .int .i64 x5_1 ∧ Aside0 (spec_l01At.l0 kq a0 a1 x5_1 = some r) ∧ Aside0 (kq ≤ k) ∧ Drawn0 w w')
 case atStart => exact ⟨(0), zb5, H', ⟨Nat.le_refl _⟩, by repeat (first | exact Drawn0.refl _ | apply Drawn0.step)⟩
 case round =>
  clear H'
  try clear p2
  obtain ⟨x5_1, rfl, HA, HK1, ⟨m1, rfl⟩⟩ := hrel
  cases gk with
  | zero => exact absurd HA.out (by simp [spec_l01At.l0])
  | succ k1 =>
   have H := HA.out
   clear HA
   simp only [spec_l01At.l0] at H
   by_cases c3 : x5_1 < (a0.size : Int)
   ·rw [if_pos c3] at H
    have c3b0 : decide (x5_1 < (a0.size : Int)) = true := decide_eq_true c3
    clear c3
    by_cases c4 : 0 ≤ x5_1
    ·rw [if_pos c4] at H
     have c4b0 : decide (0 ≤ x5_1) = true := decide_eq_true c4
     clear c4
     by_cases c6 : (bt a0 x5_1) = a1
     ·rw [if_pos c6] at H
      have c6b0 : ((bt a0 x5_1) == a1) = true := beq_iff_eq.mpr c6
      have c6b1 : ((bt a0 x5_1) != a1) = false := bne_eq_false_iff_eq.mpr c6
      clear c6
      obtain rfl := Option.some.inj H
      have p5 : 0 ≤ (x5_1 : Int) := of_decide_eq_true zb2
      have q5 : x5_1 < (a0.size : Int) := of_decide_eq_true zb2
      have hx5 := bt_at a0 x5_1
      replace p5 := eq_true p5
      replace q5 := eq_true q5
      go_wp2
      go_ret
      exact zs1
     ·rw [if_neg c6] at H
      have c6b0 : ((bt a0 x5_1) == a1) = false := beq_eq_false_iff_ne.mpr c6
      have c6b1 : ((bt a0 x5_1) != a1) = true := bne_iff_ne.mpr c6
      have H' := Aside0.mk H
      clear H
      have p5 : 0 ≤ (x5_1 : Int) := of_decide_eq_true zb2
      have q5 : x5_1 < (a0.size : Int) := of_decide_eq_true zb2
      have hx5 := bt_at a0 x5_1
      replace p5 := eq_true p5
      replace q5 := eq_true q5
      go_wp2
      go_roundg k1
      case measure => have := HK1.out; omega
      case rel => exact ⟨(wrap64 (x5_1 + 1)), zb5, H', ⟨by have := HK1.out; omega⟩, by repeat (first | exact Drawn0.refl _ | apply Drawn0.step)⟩
    ·rw [if_neg c4] at H
     exact absurd H (by simp)
   ·rw [if_neg c3] at H
    have c3b0 : decide (x5_1 < (a0.size : Int)) = false := decide_eq_false c3
    clear c3
    obtain rfl := Option.some.inj H
    go_wp2
    go_ret
    exact zs1
def spec_DecText.l0 : Nat → Int → ByteArray → Int → Option (ByteArray)
 | 0, _, _, _ => none
 | k + 1, x0, x3, x4 => if x4 = 0 then (if x0 < 0 then (if 1 + x3.size ≤ 9223372036854775807 then (some ((⟨#[45]⟩ : ByteArray) ++ x3)) else (none)) else (some x3)) else (if (Int.tmod x4 10) < 0 then (if 0 ≤ (wrap64 (-(Int.tmod x4 10))) then (if (wrap64 (-(Int.tmod x4 10))) ≤ (wrap64 ((wrap64 (-(Int.tmod x4 10))) + 1)) then (if (wrap64 ((wrap64 (-(Int.tmod x4 10))) + 1)) ≤ 10 then (if ((⟨#[48, 49, 50, 51, 52, 53, 54, 55, 56, 57]⟩ : ByteArray).extract ((wrap64 (-(Int.tmod x4 10))) : Int).toNat ((wrap64 ((wrap64 (-(Int.tmod x4 10))) + 1)) : Int).toNat).size + x3.size ≤ 9223372036854775807 then (spec_DecText.l0 k x0 (((⟨#[48, 49, 50, 51, 52, 53, 54, 55, 56, 57]⟩ : ByteArray).extract ((wrap64 (-(Int.tmod x4 10))) : Int).toNat ((wrap64 ((wrap64 (-(Int.tmod x4 10))) + 1)) : Int).toNat) ++ x3) (wrap64 (Int.tdiv x4 10))) else (none)) else (none)) else (none)) else (none)) else (if 0 ≤ (Int.tmod x4 10) then (if (Int.tmod x4 10) ≤ (wrap64 ((Int.tmod x4 10) + 1)) then (if (wrap64 ((Int.tmod x4 10) + 1)) ≤ 10 then (if ((⟨#[48, 49, 50, 51, 52, 53, 54, 55, 56, 57]⟩ : ByteArray).extract ((Int.tmod x4 10) : Int).toNat ((wrap64 ((Int.tmod x4 10) + 1)) : Int).toNat).size + x3.size ≤ 9223372036854775807 then (spec_DecText.l0 k x0 (((⟨#[48, 49, 50, 51, 52, 53, 54, 55, 56, 57]⟩ : ByteArray).extract ((Int.tmod x4 10) : Int).toNat ((wrap64 ((Int.tmod x4 10) + 1)) : Int).toNat) ++ x3) (wrap64 (Int.tdiv x4 10))) else (none)) else (none)) else (none)) else (none)))
def spec_DecText.f (k : Nat) (a0 : Int) : Option (ByteArray) := if a0 = 0 then (some (⟨#[48]⟩ : ByteArray)) else (spec_DecText.l0 k a0 (⟨#[]⟩ : ByteArray) a0)
set_option maxHeartbeats 8000000 in
set_option maxRecDepth 100000 in
theorem spec_DecText.calls (k : Nat) (a0 : Int) (r : ByteArray) (w : World) (h : spec_DecText.f k a0 = some r) :
  Calls Tryz.prog 81 #[.int .i64 a0] w fun e w' => e = .returned (.string r) ∧ Drawn0 w w' := by
 have H : (if a0 = 0 then (some (⟨#[48]⟩ : ByteArray)) else (spec_DecText.l0 k a0 (⟨#[]⟩ : ByteArray) a0)) = some r := h
 clear h
 by_cases c2 : a0 = 0
 ·rw [if_pos c2] at H
  have c2b0 : (a0 == 0) = true := beq_iff_eq.mpr c2
  have c2b1 : (a0 != 0) = false := bne_eq_false_iff_eq.mpr c2
  clear c2
  obtain rfl := Option.some.inj H
  go_enter Tryz.func81, Tryz.ntmps81
  go_wp2
  go_ret
  exact zs1
 ·rw [if_neg c2] at H
  have c2b0 : (a0 == 0) = false := beq_eq_false_iff_ne.mpr c2
  have c2b1 : (a0 != 0) = true := bne_iff_ne.mpr c2
  have H' := Aside0.mk H
  clear H
  go_enter Tryz.func81, Tryz.ntmps81
  go_wp2
  go_loopg [3, 4] k (fun kq v3 v4 w' => ∃ (x3_1 : ByteArray) (x4_1 : Int), v3 = .string x3_1 ∧ v4 = .int .i64 x4_1 ∧ Aside0 (spec_DecText.l0 kq a0 x3_1 x4_1 = some r) ∧ Aside0 (kq ≤ k) ∧ Drawn0 w w')
  case atStart => exact ⟨((⟨#[]⟩ : ByteArray)), (a0), zb5, zb5, H', ⟨Nat.le_refl _⟩, by repeat (first | exact Drawn0.refl _ | apply Drawn0.step)⟩
  case round =>
   clear H'
   try clear c2
   try clear c2b0
   try clear c2b1
   try clear p2
   obtain ⟨x3_1, x4_1, rfl, rfl, HA, HK1, ⟨m1, rfl⟩⟩ := hrel
   cases gk with
   | zero => exact absurd HA.out (by simp [spec_DecText.l0])
   | succ k1 =>
    have H := HA.out
    clear HA
    simp only [spec_DecText.l0] at H
    by_cases c3 : x4_1 = 0
    ·rw [if_pos c3] at H
     have c3b0 : (x4_1 == 0) = true := beq_iff_eq.mpr c3
     have c3b1 : (x4_1 != 0) = false := bne_eq_false_iff_eq.mpr c3
     clear c3
     by_cases c4 : a0 < 0
     ·rw [if_pos c4] at H
      have c4b0 : decide (a0 < 0) = true := decide_eq_true c4
      clear c4
      by_cases c5 : 1 + x3_1.size ≤ 9223372036854775807
      ·rw [if_pos c5] at H
       have c5b0 := eq_true c5
       have c5b1 : decide (1 + x3_1.size ≤ 9223372036854775807) = true := decide_eq_true c5
       try have c5b2 : (9223372036854775807 < 1 + x3_1.size) = False := eq_false (Nat.not_lt.2 c5)
       obtain ⟨js6, hjs6⟩ : ∃ j_ : ByteArray, ((⟨#[45]⟩ : ByteArray) ++ x3_1) = j_ := ⟨_, rfl⟩
       replace H : (some js6) = some r := by first | (rw [hjs6] at H; exact H) | (simp only [hjs6] at H ⊢; exact H)
       obtain rfl := Option.some.inj H
       go_wp2
       go_ret
       exact ⟨by first | rfl | (simp; done) | (simp only [← hjs6] <;> (first | rfl | simp)) | (simp [*]; done), by repeat (first | exact Drawn0.refl _ | apply Drawn0.step)⟩
      ·rw [if_neg c5] at H
       exact absurd H (by simp)
     ·rw [if_neg c4] at H
      have c4b0 : decide (a0 < 0) = false := decide_eq_false c4
      clear c4
      obtain rfl := Option.some.inj H
      go_wp2
      go_ret
      exact zs1
    ·rw [if_neg c3] at H
     have c3b0 : (x4_1 == 0) = false := beq_eq_false_iff_ne.mpr c3
     have c3b1 : (x4_1 != 0) = true := bne_iff_ne.mpr c3
     by_cases c7 : (Int.tmod x4_1 10) < 0
     ·rw [if_pos c7] at H
      have c7b0 : decide ((Int.tmod x4_1 10) < 0) = true := decide_eq_true c7
      clear c7
      obtain ⟨ji8, hji8⟩ : ∃ j_ : Int, (wrap64 (-(Int.tmod x4_1 10))) = j_ := ⟨_, rfl⟩
      replace H : (if 0 ≤ (ji8) then (if (ji8) ≤ (wrap64 ((ji8) + 1)) then (if (wrap64 ((ji8) + 1)) ≤ 10 then (if ((⟨#[48, 49, 50, 51, 52, 53, 54, 55, 56, 57]⟩ : ByteArray).extract ((ji8) : Int).toNat ((wrap64 ((ji8) + 1)) : Int).toNat).size + x3_1.size ≤ 9223372036854775807 then (spec_DecText.l0 k1 a0 (((⟨#[48, 49, 50, 51, 52, 53, 54, 55, 56, 57]⟩ : ByteArray).extract ((ji8) : Int).toNat ((wrap64 ((ji8) + 1)) : Int).toNat) ++ x3_1) (wrap64 (Int.tdiv x4_1 10))) else (none)) else (none)) else (none)) else (none)) = some r := by first | (rw [hji8] at H; exact H) | (simp only [hji8] at H ⊢; exact H)
      have hji8w : (IntKind.i64.wrap (-(Int.tmod x4_1 10))) = ji8 := (i64_w _).trans hji8
      by_cases c9 : 0 ≤ (ji8)
      ·rw [if_pos c9] at H
       have c9b0 := eq_true c9
       have c9b1 : decide (0 ≤ (ji8)) = true := decide_eq_true c9
       clear c9
       by_cases c10 : (ji8) ≤ (wrap64 ((ji8) + 1))
       ·rw [if_pos c10] at H
        have c10b0 := eq_true c10
        have c10b1 : decide ((ji8) ≤ (wrap64 ((ji8) + 1))) = true := decide_eq_true c10
        by_cases c11 : (wrap64 ((ji8) + 1)) ≤ 10
        ·rw [if_pos c11] at H
         have c11b0 := eq_true c11
         have c11b1 : decide ((wrap64 ((ji8) + 1)) ≤ 10) = true := decide_eq_true c11
         obtain ⟨js12, hjs12⟩ : ∃ j_ : ByteArray, ((⟨#[48, 49, 50, 51, 52, 53, 54, 55, 56, 57]⟩ : ByteArray).extract ((ji8) : Int).toNat ((wrap64 ((ji8) + 1)) : Int).toNat) = j_ := ⟨_, rfl⟩
         replace H : (if (js12).size + x3_1.size ≤ 9223372036854775807 then (spec_DecText.l0 k1 a0 ((js12) ++ x3_1) (wrap64 (Int.tdiv x4_1 10))) else (none)) = some r := by first | (rw [hjs12] at H; exact H) | (simp only [hjs12] at H ⊢; exact H)
         by_cases c13 : (js12).size + x3_1.size ≤ 9223372036854775807
         ·rw [if_pos c13] at H
          have c13b0 := eq_true c13
          have c13b1 : decide ((js12).size + x3_1.size ≤ 9223372036854775807) = true := decide_eq_true c13
          try have c13b2 : (9223372036854775807 < (js12).size + x3_1.size) = False := eq_false (Nat.not_lt.2 c13)
          obtain ⟨js14, hjs14⟩ : ∃ j_ : ByteArray, ((js12) ++ x3_1) = j_ := ⟨_, rfl⟩
          replace H : (spec_DecText.l0 k1 a0 js14 (wrap64 (Int.tdiv x4_1 10))) = some r := by first | (rw [hjs14] at H; exact H) | (simp only [hjs14] at H ⊢; exact H)
          have H' := Aside0.mk H
          clear H
          go_wp2
          go_roundg k1
          case measure => have := HK1.out; omega
          case rel => exact ⟨(js14), (wrap64 (Int.tdiv x4_1 10)), (by first | rfl | (simp; done) | (simp only [← hjs14] <;> (first | rfl | simp)) | (simp [*]; done)), zb5, H', ⟨by have := HK1.out; omega⟩, by repeat (first | exact Drawn0.refl _ | apply Drawn0.step)⟩
         ·rw [if_neg c13] at H
          exact absurd H (by simp)
        ·rw [if_neg c11] at H
         exact absurd H (by simp)
       ·rw [if_neg c10] at H
        exact absurd H (by simp)
      ·rw [if_neg c9] at H
       exact absurd H (by simp)
     ·rw [if_neg c7] at H
      have c7b0 : decide ((Int.tmod x4_1 10) < 0) = false := decide_eq_false c7
      clear c7
      obtain ⟨ji15, hji15⟩ : ∃ j_ : Int, (Int.tmod x4_1 10) = j_ := ⟨_, rfl⟩
      replace H : (if 0 ≤ (ji15) then (if (ji15) ≤ (wrap64 ((ji15) + 1)) then (if (wrap64 ((ji15) + 1)) ≤ 10 then (if ((⟨#[48, 49, 50, 51, 52, 53, 54, 55, 56, 57]⟩ : ByteArray).extract ((ji15) : Int).toNat ((wrap64 ((ji15) + 1)) : Int).toNat).size + x3_1.size ≤ 9223372036854775807 then (spec_DecText.l0 k1 a0 (((⟨#[48, 49, 50, 51, 52, 53, 54, 55, 56, 57]⟩ : ByteArray).extract ((ji15) : Int).toNat ((wrap64 ((ji15) + 1)) : Int).toNat) ++ x3_1) (wrap64 (Int.tdiv x4_1 10))) else (none)) else (none)) else (none)) else (none)) = some r := by first | (rw [hji15] at H; exact H) | (simp only [hji15] at H ⊢; exact H)
      (try rw [hji15] at c7b0)
      by_cases c16 : 0 ≤ (ji15)
      ·rw [if_pos c16] at H
       have c16b0 := eq_true c16
       have c16b1 : decide (0 ≤ (ji15)) = true := decide_eq_true c16
       clear c16
       by_cases c17 : (ji15) ≤ (wrap64 ((ji15) + 1))
       ·rw [if_pos c17] at H
        have c17b0 := eq_true c17
        have c17b1 : decide ((ji15) ≤ (wrap64 ((ji15) + 1))) = true := decide_eq_true c17
        by_cases c18 : (wrap64 ((ji15) + 1)) ≤ 10
        ·rw [if_pos c18] at H
         have c18b0 := eq_true c18
         have c18b1 : decide ((wrap64 ((ji15) + 1)) ≤ 10) = true := decide_eq_true c18
         obtain ⟨js19, hjs19⟩ : ∃ j_ : ByteArray, ((⟨#[48, 49, 50, 51, 52, 53, 54, 55, 56, 57]⟩ : ByteArray).extract ((ji15) : Int).toNat ((wrap64 ((ji15) + 1)) : Int).toNat) = j_ := ⟨_, rfl⟩
         replace H : (if (js19).size + x3_1.size ≤ 9223372036854775807 then (spec_DecText.l0 k1 a0 ((js19) ++ x3_1) (wrap64 (Int.tdiv x4_1 10))) else (none)) = some r := by first | (rw [hjs19] at H; exact H) | (simp only [hjs19] at H ⊢; exact H)
         by_cases c20 : (js19).size + x3_1.size ≤ 9223372036854775807
         ·rw [if_pos c20] at H
          have c20b0 := eq_true c20
          have c20b1 : decide ((js19).size + x3_1.size ≤ 9223372036854775807) = true := decide_eq_true c20
          try have c20b2 : (9223372036854775807 < (js19).size + x3_1.size) = False := eq_false (Nat.not_lt.2 c20)
          obtain ⟨js21, hjs21⟩ : ∃ j_ : ByteArray, ((js19) ++ x3_1) = j_ := ⟨_, rfl⟩
          replace H : (spec_DecText.l0 k1 a0 js21 (wrap64 (Int.tdiv x4_1 10))) = some r := by first | (rw [hjs21] at H; exact H) | (simp only [hjs21] at H ⊢; exact H)
          have H' := Aside0.mk H
          clear H
          go_wp2
          go_roundg k1
          case measure => have := HK1.out; omega
          case rel => exact ⟨(js21), (wrap64 (Int.tdiv x4_1 10)), (by first | rfl | (simp; done) | (simp only [← hjs21] <;> (first | rfl | simp)) | (simp [*]; done)), zb5, H', ⟨by have := HK1.out; omega⟩, by repeat (first | exact Drawn0.refl _ | apply Drawn0.step)⟩
         ·rw [if_neg c20] at H
          exact absurd H (by simp)
        ·rw [if_neg c18] at H
         exact absurd H (by simp)
       ·rw [if_neg c17] at H
        exact absurd H (by simp)
      ·rw [if_neg c16] at H
       exact absurd H (by simp)
def spec_ReadDec.l0 : Nat → ByteArray → Int → Int → Option (Int)
 | 0, _, _, _ => none
 | k + 1, x0, x3, x4 => if x4 < (x0.size : Int) then (if 0 ≤ x4 then ((spec_l01In.f (wrap64 (bt x0 x4)) 48 57).bind fun t113 => (if t113 = true then (if (x0.size : Int) > 9 then (some (-1)) else (spec_ReadDec.l0 k x0 (wrap64 ((wrap64 ((wrap64 (10 * x3)) + (wrap64 (bt x0 x4)))) - 48)) (wrap64 (x4 + 1)))) else (some (-1)))) else (none)) else (if x0.toList = ([] : List UInt8) then (some (-1)) else ((spec_DecText.f k x3).bind fun t114 => (if t114.toList = x0.toList then (some x3) else (some (-1)))))
def spec_ReadDec.f (k : Nat) (a0 : ByteArray) : Option (Int) := spec_ReadDec.l0 k a0 0 0
set_option maxHeartbeats 8000000 in
set_option maxRecDepth 100000 in
theorem spec_ReadDec.calls (k : Nat) (a0 : ByteArray) (r : Int) (w : World) (h : spec_ReadDec.f k a0 = some r) :
  Calls Tryz.prog 53 #[.string a0] w fun e w' => e = .returned (.int .i64 r) ∧ Below w.heap.size w w' := by
 have HB := Aside0.mk (Below.refl w.heap.size w)
 have H : (spec_ReadDec.l0 k a0 0 0) = some r := h
 clear h
 have H' := Aside0.mk H
 clear H
 go_enter Tryz.func53, Tryz.ntmps53
 go_wp2
 go_loopg [3, 4] k (fun kq v3 v4 w' => ∃ (x3_1 : Int) (x4_1 : Int), v3 = .int .i64 x3_1 ∧ v4 = .int .i64 x4_1 ∧ Aside0 (spec_ReadDec.l0 kq a0 x3_1 x4_1 = some r) ∧ Aside0 (kq ≤ k) ∧ Aside0 (Below w.heap.size w w'))
 case atStart => exact ⟨(0), (0), zb5, zb5, H', ⟨Nat.le_refl _⟩, ⟨by repeat (first | (with_reducible first | exact HB.out | apply below_alloc | apply pw_below_drewN | apply below_drew1) | exact HB.out)⟩⟩
 case round =>
  clear H'
  obtain ⟨x3_1, x4_1, rfl, rfl, HA, HK1, HB⟩ := hrel
  cases gk with
  | zero => exact absurd HA.out (by simp [spec_ReadDec.l0])
  | succ k1 =>
   have H := HA.out
   clear HA
   simp only [spec_ReadDec.l0] at H
   by_cases c2 : x4_1 < (a0.size : Int)
   ·rw [if_pos c2] at H
    have c2b0 : decide (x4_1 < (a0.size : Int)) = true := decide_eq_true c2
    clear c2
    by_cases c3 : 0 ≤ x4_1
    ·rw [if_pos c3] at H
     have c3b0 : decide (0 ≤ x4_1) = true := decide_eq_true c3
     clear c3
     replace H := Option.bind_eq_some_iff.mp H
     obtain ⟨t113, A50, H⟩ := H
     replace H : (if t113 = true then (if (a0.size : Int) > 9 then (some (-1)) else (spec_ReadDec.l0 k1 a0 (wrap64 ((wrap64 ((wrap64 (10 * x3_1)) + (wrap64 (bt a0 x4_1)))) - 48)) (wrap64 (x4_1 + 1)))) else (some (-1))) = some r := H
     have A5 := Aside0.mk A50
     clear A50
     by_cases c6 : t113 = true
     ·subst c6
      have H1 : (if (a0.size : Int) > 9 then (some (-1)) else (spec_ReadDec.l0 k1 a0 (wrap64 ((wrap64 ((wrap64 (10 * x3_1)) + (wrap64 (bt a0 x4_1)))) - 48)) (wrap64 (x4_1 + 1)))) = some r := by rw [if_pos rfl] at H; exact H
      clear H
      have H := H1
      clear H1
      by_cases c7 : (a0.size : Int) > 9
      ·rw [if_pos c7] at H
       have c7b0 : decide (9 < (a0.size : Int)) = true := decide_eq_true c7
       have c7b1 : decide (9 < a0.size) = true := decide_eq_true (by omega)
       clear c7
       obtain rfl := Option.some.inj H
       have p4 : 0 ≤ (x4_1 : Int) := of_decide_eq_true zb2
       have q4 : x4_1 < (a0.size : Int) := of_decide_eq_true zb2
       have hx4 := bt_at a0 x4_1
       replace p4 := eq_true p4
       replace q4 := eq_true q4
       go_wp2_with (first | ((with_reducible refine gate_callee (f := 56) rfl ?_); refine goesL_ (some 15) rfl rfl Tryz.func56 zb6 rfl #[.int .i64 (wrap64 (bt a0 x4_1)), .int .i64 48, .int .i64 57] rfl zb1 ?_; (with_reducible refine (spec_l01In.calls (wrap64 (bt a0 x4_1)) 48 57 true _ A5.out).mono ?_); rintro e w' ⟨rfl, ⟨nd, rfl⟩⟩; refine ⟨_, rfl, ?_⟩))
       go_ret
       exact zs3
      ·rw [if_neg c7] at H
       have c7b0 : decide (9 < (a0.size : Int)) = false := decide_eq_false c7
       have c7b1 : decide (9 < a0.size) = false := decide_eq_false (by omega)
       clear c7
       have H' := Aside0.mk H
       clear H
       have p4 : 0 ≤ (x4_1 : Int) := of_decide_eq_true zb2
       have q4 : x4_1 < (a0.size : Int) := of_decide_eq_true zb2
       have hx4 := bt_at a0 x4_1
       replace p4 := eq_true p4
       replace q4 := eq_true q4
       go_wp2_with (first | ((with_reducible refine gate_callee (f := 56) rfl ?_); refine goesL_ (some 15) rfl rfl Tryz.func56 zb6 rfl #[.int .i64 (wrap64 (bt a0 x4_1)), .int .i64 48, .int .i64 57] rfl zb1 ?_; (with_reducible refine (spec_l01In.calls (wrap64 (bt a0 x4_1)) 48 57 true _ A5.out).mono ?_); rintro e w' ⟨rfl, ⟨nd, rfl⟩⟩; refine ⟨_, rfl, ?_⟩; have p8 : 0 ≤ (x4_1 : Int) := of_decide_eq_true zb2; have q8 : x4_1 < (a0.size : Int) := of_decide_eq_true zb2; have hx8 := bt_at a0 x4_1; replace p8 := eq_true p8; replace q8 := eq_true q8))
       go_roundg k1
       case measure => have := HK1.out; omega
       case rel => exact ⟨(wrap64 ((wrap64 ((wrap64 (10 * x3_1)) + (wrap64 (bt a0 x4_1)))) - 48)), (wrap64 (x4_1 + 1)), zb5, zb5, H', ⟨by have := HK1.out; omega⟩, ⟨by repeat (first | (with_reducible first | exact HB.out | apply below_alloc | apply pw_below_drewN | apply below_drew1) | exact HB.out)⟩⟩
     ·replace c6 := Bool.eq_false_iff.mpr c6
      subst c6
      have H1 : (some (-1)) = some r := by rw [if_neg (show ¬ (false = true) by decide)] at H; exact H
      clear H
      have H := H1
      clear H1
      obtain rfl := Option.some.inj H
      have p4 : 0 ≤ (x4_1 : Int) := of_decide_eq_true zb2
      have q4 : x4_1 < (a0.size : Int) := of_decide_eq_true zb2
      have hx4 := bt_at a0 x4_1
      replace p4 := eq_true p4
      replace q4 := eq_true q4
      go_wp2_with (first | ((with_reducible refine gate_callee (f := 56) rfl ?_); refine goesL_ (some 15) rfl rfl Tryz.func56 zb6 rfl #[.int .i64 (wrap64 (bt a0 x4_1)), .int .i64 48, .int .i64 57] rfl zb1 ?_; (with_reducible refine (spec_l01In.calls (wrap64 (bt a0 x4_1)) 48 57 false _ A5.out).mono ?_); rintro e w' ⟨rfl, ⟨nd, rfl⟩⟩; refine ⟨_, rfl, ?_⟩))
      go_ret
      exact zs3
    ·rw [if_neg c3] at H
     exact absurd H (by simp)
   ·rw [if_neg c2] at H
    have c2b0 : decide (x4_1 < (a0.size : Int)) = false := decide_eq_false c2
    clear c2
    by_cases c9 : a0.toList = ([] : List UInt8)
    ·rw [if_pos c9] at H
     have c9b0 : (a0.toList == ([] : List UInt8)) = true := beq_iff_eq.mpr c9
     have c9b1 : (a0.toList != ([] : List UInt8)) = false := bne_eq_false_iff_eq.mpr c9
     clear c9
     obtain rfl := Option.some.inj H
     go_wp2
     go_ret
     exact zs3
    ·rw [if_neg c9] at H
     have c9b0 : (a0.toList == ([] : List UInt8)) = false := beq_eq_false_iff_ne.mpr c9
     have c9b1 : (a0.toList != ([] : List UInt8)) = true := bne_iff_ne.mpr c9
     replace H := Option.bind_eq_some_iff.mp H
     obtain ⟨t114, A100, H⟩ := H
     replace H : (if t114.toList = a0.toList then (some x3_1) else (some (-1))) = some r := H
     have A10 := Aside0.mk A100
     clear A100
     by_cases c11 : t114.toList = a0.toList
     ·rw [if_pos c11] at H
      have c11b0 : (t114.toList == a0.toList) = true := beq_iff_eq.mpr c11
      have c11b1 : (t114.toList != a0.toList) = false := bne_eq_false_iff_eq.mpr c11
      clear c11
      obtain rfl := Option.some.inj H
      go_wp2_with (first | (go_at_call 81; (with_reducible refine (spec_DecText.calls k1 x3_1 t114 _ A10.out).mono ?_); rintro e w' ⟨rfl, ⟨nd, rfl⟩⟩))
      go_ret
      exact zs3
     ·rw [if_neg c11] at H
      have c11b0 : (t114.toList == a0.toList) = false := beq_eq_false_iff_ne.mpr c11
      have c11b1 : (t114.toList != a0.toList) = true := bne_iff_ne.mpr c11
      obtain rfl := Option.some.inj H
      go_wp2_with (first | (go_at_call 81; (with_reducible refine (spec_DecText.calls k1 x3_1 t114 _ A10.out).mono ?_); rintro e w' ⟨rfl, ⟨nd, rfl⟩⟩))
      go_ret
      exact zs3
def spec_l01Great.f (a0 : Int) : Option (Bool) := (spec_l01In.f (wrap64 (a0)) 65 90).bind fun t117 => (some t117)
set_option maxHeartbeats 8000000 in
set_option maxRecDepth 100000 in
theorem spec_l01Great.calls (a0 : Int) (r : Bool) (w : World) (h : spec_l01Great.f a0 = some r) :
  Calls Tryz.prog 129 #[.int .u8 a0] w fun e w' => e = .returned (.bool r) ∧ Drawn0 w w' := by
 have H : ((spec_l01In.f (wrap64 (a0)) 65 90).bind fun t117 => (some t117)) = some r := h
 clear h
 replace H := Option.bind_eq_some_iff.mp H
 obtain ⟨t117, A20, H⟩ := H
 replace H : (some t117) = some r := H
 have A2 := Aside0.mk A20
 clear A20
 obtain rfl := Option.some.inj H
 go_enter Tryz.func129, Tryz.ntmps129
 go_wp2_with (first | ((with_reducible refine gate_callee (f := 56) rfl ?_); refine goesL_ (some 5) rfl rfl Tryz.func56 zb6 rfl #[.int .i64 (wrap64 (a0)), .int .i64 65, .int .i64 90] rfl zb1 ?_; (with_reducible refine (spec_l01In.calls (wrap64 (a0)) 65 90 t117 _ A2.out).mono ?_); rintro e w' ⟨rfl, ⟨nd, rfl⟩⟩; refine ⟨_, rfl, ?_⟩))
 go_ret
 exact zs1
def spec_l02Digits.l0 : Nat → ByteArray → Int → Option (Bool)
 | 0, _, _ => none
 | k + 1, x0, x3 => if x3 < (x0.size : Int) then (if 0 ≤ x3 then ((spec_l01In.f (wrap64 (bt x0 x3)) 48 57).bind fun t118 => (if t118 = true then (spec_l02Digits.l0 k x0 (wrap64 (x3 + 1))) else (some false))) else (none)) else (some (x0.toList != ([] : List UInt8)))
def spec_l02Digits.f (k : Nat) (a0 : ByteArray) : Option (Bool) := spec_l02Digits.l0 k a0 0
set_option maxHeartbeats 8000000 in
set_option maxRecDepth 100000 in
theorem spec_l02Digits.calls (k : Nat) (a0 : ByteArray) (r : Bool) (w : World) (h : spec_l02Digits.f k a0 = some r) :
  Calls Tryz.prog 130 #[.string a0] w fun e w' => e = .returned (.bool r) ∧ Drawn0 w w' := by
 have H : (spec_l02Digits.l0 k a0 0) = some r := h
 clear h
 have H' := Aside0.mk H
 clear H
 go_enter Tryz.func130, Tryz.ntmps130
 go_wp2
 go_loopg [3] k (fun kq v3 w' => ∃ (x3_1 : Int), v3 = .int .i64 x3_1 ∧ Aside0 (spec_l02Digits.l0 kq a0 x3_1 = some r) ∧ Aside0 (kq ≤ k) ∧ Drawn0 w w')
 case atStart => exact ⟨(0), zb5, H', ⟨Nat.le_refl _⟩, by repeat (first | exact Drawn0.refl _ | apply Drawn0.step)⟩
 case round =>
  clear H'
  try clear c1
  obtain ⟨x3_1, rfl, HA, HK1, ⟨m1, rfl⟩⟩ := hrel
  cases gk with
  | zero => exact absurd HA.out (by simp [spec_l02Digits.l0])
  | succ k1 =>
   have H := HA.out
   clear HA
   simp only [spec_l02Digits.l0] at H
   by_cases c2 : x3_1 < (a0.size : Int)
   ·rw [if_pos c2] at H
    have c2b0 : decide (x3_1 < (a0.size : Int)) = true := decide_eq_true c2
    clear c2
    by_cases c3 : 0 ≤ x3_1
    ·rw [if_pos c3] at H
     have c3b0 : decide (0 ≤ x3_1) = true := decide_eq_true c3
     clear c3
     replace H := Option.bind_eq_some_iff.mp H
     obtain ⟨t118, A50, H⟩ := H
     replace H : (if t118 = true then (spec_l02Digits.l0 k1 a0 (wrap64 (x3_1 + 1))) else (some false)) = some r := H
     have A5 := Aside0.mk A50
     clear A50
     by_cases c6 : t118 = true
     ·subst c6
      have H1 : (spec_l02Digits.l0 k1 a0 (wrap64 (x3_1 + 1))) = some r := by rw [if_pos rfl] at H; exact H
      clear H
      have H := H1
      clear H1
      have H' := Aside0.mk H
      clear H
      have p4 : 0 ≤ (x3_1 : Int) := of_decide_eq_true zb2
      have q4 : x3_1 < (a0.size : Int) := of_decide_eq_true zb2
      have hx4 := bt_at a0 x3_1
      replace p4 := eq_true p4
      replace q4 := eq_true q4
      go_wp2_with (first | ((with_reducible refine gate_callee (f := 56) rfl ?_); refine goesL_ (some 14) rfl rfl Tryz.func56 zb6 rfl #[.int .i64 (wrap64 (bt a0 x3_1)), .int .i64 48, .int .i64 57] rfl zb1 ?_; (with_reducible refine (spec_l01In.calls (wrap64 (bt a0 x3_1)) 48 57 true _ A5.out).mono ?_); rintro e w' ⟨rfl, ⟨nd, rfl⟩⟩; refine ⟨_, rfl, ?_⟩))
      go_roundg k1
      case measure => have := HK1.out; omega
      case rel => exact ⟨(wrap64 (x3_1 + 1)), zb5, H', ⟨by have := HK1.out; omega⟩, by repeat (first | exact Drawn0.refl _ | apply Drawn0.step)⟩
     ·replace c6 := Bool.eq_false_iff.mpr c6
      subst c6
      have H1 : (some false) = some r := by rw [if_neg (show ¬ (false = true) by decide)] at H; exact H
      clear H
      have H := H1
      clear H1
      obtain rfl := Option.some.inj H
      have p4 : 0 ≤ (x3_1 : Int) := of_decide_eq_true zb2
      have q4 : x3_1 < (a0.size : Int) := of_decide_eq_true zb2
      have hx4 := bt_at a0 x3_1
      replace p4 := eq_true p4
      replace q4 := eq_true q4
      go_wp2_with (first | ((with_reducible refine gate_callee (f := 56) rfl ?_); refine goesL_ (some 14) rfl rfl Tryz.func56 zb6 rfl #[.int .i64 (wrap64 (bt a0 x3_1)), .int .i64 48, .int .i64 57] rfl zb1 ?_; (with_reducible refine (spec_l01In.calls (wrap64 (bt a0 x3_1)) 48 57 false _ A5.out).mono ?_); rintro e w' ⟨rfl, ⟨nd, rfl⟩⟩; refine ⟨_, rfl, ?_⟩))
      go_ret
      exact zs1
    ·rw [if_neg c3] at H
     exact absurd H (by simp)
   ·rw [if_neg c2] at H
    have c2b0 : decide (x3_1 < (a0.size : Int)) = false := decide_eq_false c2
    clear c2
    obtain rfl := Option.some.inj H
    go_wp2
    go_ret
    exact zs1
def spec_l02Pre.l0 : Nat → ByteArray → Int → Option (Bool)
 | 0, _, _ => none
 | k + 1, x0, x3 => if x3 < (x0.size : Int) then (if 0 ≤ x3 then ((spec_l01Letter.f (bt x0 x3)).bind fun t122 => (if t122 = true then (spec_l02Pre.l0 k x0 (wrap64 (x3 + 1))) else ((spec_l01Great.f (bt x0 x3)).bind fun t123 => (if t123 = true then (spec_l02Pre.l0 k x0 (wrap64 (x3 + 1))) else (if (bt x0 x3) = 45 then (spec_l02Pre.l0 k x0 (wrap64 (x3 + 1))) else (some false)))))) else (none)) else ((spec_l01In.f (x0.size : Int) 1 20).bind fun t119 => (if t119 = true then ((spec_l02Digits.f k x0).bind fun t120 => (if t120 = true then ((spec_ReadDec.f k x0).bind fun t121 => (some (decide (t121 ≥ 0)))) else (some true))) else (some false)))
def spec_l02Pre.f (k : Nat) (a0 : ByteArray) : Option (Bool) := spec_l02Pre.l0 k a0 0
set_option maxHeartbeats 8000000 in
set_option maxRecDepth 100000 in
theorem spec_l02Pre.calls (k : Nat) (a0 : ByteArray) (r : Bool) (w : World) (h : spec_l02Pre.f k a0 = some r) :
  Calls Tryz.prog 107 #[.string a0] w fun e w' => e = .returned (.bool r) ∧ Below w.heap.size w w' := by
 have HB := Aside0.mk (Below.refl w.heap.size w)
 have H : (spec_l02Pre.l0 k a0 0) = some r := h
 clear h
 have H' := Aside0.mk H
 clear H
 go_enter Tryz.func107, Tryz.ntmps107
 go_wp2
 go_loopg [3] k (fun kq v3 w' => ∃ (x3_1 : Int), v3 = .int .i64 x3_1 ∧ Aside0 (spec_l02Pre.l0 kq a0 x3_1 = some r) ∧ Aside0 (kq ≤ k) ∧ Aside0 (Below w.heap.size w w'))
 case atStart => exact ⟨(0), zb5, H', ⟨Nat.le_refl _⟩, ⟨by repeat (first | (with_reducible first | exact HB.out | apply below_alloc | apply pw_below_drewN | apply below_drew1) | exact HB.out)⟩⟩
 case round =>
  clear H'
  try clear c1
  obtain ⟨x3_1, rfl, HA, HK1, HB⟩ := hrel
  cases gk with
  | zero => exact absurd HA.out (by simp [spec_l02Pre.l0])
  | succ k1 =>
   have H := HA.out
   clear HA
   simp only [spec_l02Pre.l0] at H
   by_cases c2 : x3_1 < (a0.size : Int)
   ·rw [if_pos c2] at H
    have c2b0 : decide (x3_1 < (a0.size : Int)) = true := decide_eq_true c2
    clear c2
    by_cases c3 : 0 ≤ x3_1
    ·rw [if_pos c3] at H
     have c3b0 : decide (0 ≤ x3_1) = true := decide_eq_true c3
     clear c3
     replace H := Option.bind_eq_some_iff.mp H
     obtain ⟨t122, A50, H⟩ := H
     replace H : (if t122 = true then (spec_l02Pre.l0 k1 a0 (wrap64 (x3_1 + 1))) else ((spec_l01Great.f (bt a0 x3_1)).bind fun t123 => (if t123 = true then (spec_l02Pre.l0 k1 a0 (wrap64 (x3_1 + 1))) else (if (bt a0 x3_1) = 45 then (spec_l02Pre.l0 k1 a0 (wrap64 (x3_1 + 1))) else (some false))))) = some r := H
     have A5 := Aside0.mk A50
     clear A50
     by_cases c6 : t122 = true
     ·subst c6
      have H1 : (spec_l02Pre.l0 k1 a0 (wrap64 (x3_1 + 1))) = some r := by rw [if_pos rfl] at H; exact H
      clear H
      have H := H1
      clear H1
      have H' := Aside0.mk H
      clear H
      have p4 : 0 ≤ (x3_1 : Int) := of_decide_eq_true zb2
      have q4 : x3_1 < (a0.size : Int) := of_decide_eq_true zb2
      have hx4 := bt_at a0 x3_1
      replace p4 := eq_true p4
      replace q4 := eq_true q4
      go_wp2_with (first | ((with_reducible refine gate_callee (f := 64) rfl ?_); refine goesL_ (some 13) rfl rfl Tryz.func64 zb6 rfl #[.int .u8 (bt a0 x3_1)] rfl zb1 ?_; (with_reducible refine (spec_l01Letter.calls (bt a0 x3_1) true _ A5.out).mono ?_); rintro e w' ⟨rfl, ⟨nd, rfl⟩⟩; refine ⟨_, rfl, ?_⟩))
      go_roundg k1
      case measure => have := HK1.out; omega
      case rel => exact ⟨(wrap64 (x3_1 + 1)), zb5, H', ⟨by have := HK1.out; omega⟩, ⟨by repeat (first | (with_reducible first | exact HB.out | apply below_alloc | apply pw_below_drewN | apply below_drew1) | exact HB.out)⟩⟩
     ·replace c6 := Bool.eq_false_iff.mpr c6
      subst c6
      have H1 : ((spec_l01Great.f (bt a0 x3_1)).bind fun t123 => (if t123 = true then (spec_l02Pre.l0 k1 a0 (wrap64 (x3_1 + 1))) else (if (bt a0 x3_1) = 45 then (spec_l02Pre.l0 k1 a0 (wrap64 (x3_1 + 1))) else (some false)))) = some r := by rw [if_neg (show ¬ (false = true) by decide)] at H; exact H
      clear H
      have H := H1
      clear H1
      replace H := Option.bind_eq_some_iff.mp H
      obtain ⟨t123, A80, H⟩ := H
      replace H : (if t123 = true then (spec_l02Pre.l0 k1 a0 (wrap64 (x3_1 + 1))) else (if (bt a0 x3_1) = 45 then (spec_l02Pre.l0 k1 a0 (wrap64 (x3_1 + 1))) else (some false))) = some r := H
      have A8 := Aside0.mk A80
      clear A80
      by_cases c9 : t123 = true
      ·subst c9
       have H1 : (spec_l02Pre.l0 k1 a0 (wrap64 (x3_1 + 1))) = some r := by rw [if_pos rfl] at H; exact H
       clear H
       have H := H1
       clear H1
       have H' := Aside0.mk H
       clear H
       have p4 : 0 ≤ (x3_1 : Int) := of_decide_eq_true zb2
       have q4 : x3_1 < (a0.size : Int) := of_decide_eq_true zb2
       have hx4 := bt_at a0 x3_1
       replace p4 := eq_true p4
       replace q4 := eq_true q4
       go_wp2_with (first | ((with_reducible refine gate_callee (f := 64) rfl ?_); refine goesL_ (some 13) rfl rfl Tryz.func64 zb6 rfl #[.int .u8 (bt a0 x3_1)] rfl zb1 ?_; (with_reducible refine (spec_l01Letter.calls (bt a0 x3_1) false _ A5.out).mono ?_); rintro e w' ⟨rfl, ⟨nd, rfl⟩⟩; refine ⟨_, rfl, ?_⟩; have p7 : 0 ≤ (x3_1 : Int) := of_decide_eq_true zb2; have q7 : x3_1 < (a0.size : Int) := of_decide_eq_true zb2; have hx7 := bt_at a0 x3_1; replace p7 := eq_true p7; replace q7 := eq_true q7) | (go_at_call 129; (with_reducible refine (spec_l01Great.calls (bt a0 x3_1) true _ A8.out).mono ?_); rintro e w' ⟨rfl, ⟨nd, rfl⟩⟩))
       go_roundg k1
       case measure => have := HK1.out; omega
       case rel => exact ⟨(wrap64 (x3_1 + 1)), zb5, H', ⟨by have := HK1.out; omega⟩, ⟨by repeat (first | (with_reducible first | exact HB.out | apply below_alloc | apply pw_below_drewN | apply below_drew1) | exact HB.out)⟩⟩
      ·replace c9 := Bool.eq_false_iff.mpr c9
       subst c9
       have H1 : (if (bt a0 x3_1) = 45 then (spec_l02Pre.l0 k1 a0 (wrap64 (x3_1 + 1))) else (some false)) = some r := by rw [if_neg (show ¬ (false = true) by decide)] at H; exact H
       clear H
       have H := H1
       clear H1
       by_cases c11 : (bt a0 x3_1) = 45
       ·rw [if_pos c11] at H
        have c11b0 : ((bt a0 x3_1) == 45) = true := beq_iff_eq.mpr c11
        have c11b1 : ((bt a0 x3_1) != 45) = false := bne_eq_false_iff_eq.mpr c11
        clear c11
        have H' := Aside0.mk H
        clear H
        have p4 : 0 ≤ (x3_1 : Int) := of_decide_eq_true zb2
        have q4 : x3_1 < (a0.size : Int) := of_decide_eq_true zb2
        have hx4 := bt_at a0 x3_1
        replace p4 := eq_true p4
        replace q4 := eq_true q4
        go_wp2_with (first | ((with_reducible refine gate_callee (f := 64) rfl ?_); refine goesL_ (some 13) rfl rfl Tryz.func64 zb6 rfl #[.int .u8 (bt a0 x3_1)] rfl zb1 ?_; (with_reducible refine (spec_l01Letter.calls (bt a0 x3_1) false _ A5.out).mono ?_); rintro e w' ⟨rfl, ⟨nd, rfl⟩⟩; refine ⟨_, rfl, ?_⟩; have p7 : 0 ≤ (x3_1 : Int) := of_decide_eq_true zb2; have q7 : x3_1 < (a0.size : Int) := of_decide_eq_true zb2; have hx7 := bt_at a0 x3_1; replace p7 := eq_true p7; replace q7 := eq_true q7) | (go_at_call 129; (with_reducible refine (spec_l01Great.calls (bt a0 x3_1) false _ A8.out).mono ?_); rintro e w' ⟨rfl, ⟨nd, rfl⟩⟩; have p10 : 0 ≤ (x3_1 : Int) := of_decide_eq_true zb2; have q10 : x3_1 < (a0.size : Int) := of_decide_eq_true zb2; have hx10 := bt_at a0 x3_1; replace p10 := eq_true p10; replace q10 := eq_true q10))
        go_roundg k1
        case measure => have := HK1.out; omega
        case rel => exact ⟨(wrap64 (x3_1 + 1)), zb5, H', ⟨by have := HK1.out; omega⟩, ⟨by repeat (first | (with_reducible first | exact HB.out | apply below_alloc | apply pw_below_drewN | apply below_drew1) | exact HB.out)⟩⟩
       ·rw [if_neg c11] at H
        have c11b0 : ((bt a0 x3_1) == 45) = false := beq_eq_false_iff_ne.mpr c11
        have c11b1 : ((bt a0 x3_1) != 45) = true := bne_iff_ne.mpr c11
        obtain rfl := Option.some.inj H
        have p4 : 0 ≤ (x3_1 : Int) := of_decide_eq_true zb2
        have q4 : x3_1 < (a0.size : Int) := of_decide_eq_true zb2
        have hx4 := bt_at a0 x3_1
        replace p4 := eq_true p4
        replace q4 := eq_true q4
        go_wp2_with (first | ((with_reducible refine gate_callee (f := 64) rfl ?_); refine goesL_ (some 13) rfl rfl Tryz.func64 zb6 rfl #[.int .u8 (bt a0 x3_1)] rfl zb1 ?_; (with_reducible refine (spec_l01Letter.calls (bt a0 x3_1) false _ A5.out).mono ?_); rintro e w' ⟨rfl, ⟨nd, rfl⟩⟩; refine ⟨_, rfl, ?_⟩; have p7 : 0 ≤ (x3_1 : Int) := of_decide_eq_true zb2; have q7 : x3_1 < (a0.size : Int) := of_decide_eq_true zb2; have hx7 := bt_at a0 x3_1; replace p7 := eq_true p7; replace q7 := eq_true q7) | (go_at_call 129; (with_reducible refine (spec_l01Great.calls (bt a0 x3_1) false _ A8.out).mono ?_); rintro e w' ⟨rfl, ⟨nd, rfl⟩⟩; have p10 : 0 ≤ (x3_1 : Int) := of_decide_eq_true zb2; have q10 : x3_1 < (a0.size : Int) := of_decide_eq_true zb2; have hx10 := bt_at a0 x3_1; replace p10 := eq_true p10; replace q10 := eq_true q10))
        go_ret
        exact zs3
    ·rw [if_neg c3] at H
     exact absurd H (by simp)
   ·rw [if_neg c2] at H
    have c2b0 : decide (x3_1 < (a0.size : Int)) = false := decide_eq_false c2
    clear c2
    replace H := Option.bind_eq_some_iff.mp H
    obtain ⟨t119, A120, H⟩ := H
    replace H : (if t119 = true then ((spec_l02Digits.f k1 a0).bind fun t120 => (if t120 = true then ((spec_ReadDec.f k1 a0).bind fun t121 => (some (decide (t121 ≥ 0)))) else (some true))) else (some false)) = some r := H
    have A12 := Aside0.mk A120
    clear A120
    by_cases c13 : t119 = true
    ·subst c13
     have H1 : ((spec_l02Digits.f k1 a0).bind fun t120 => (if t120 = true then ((spec_ReadDec.f k1 a0).bind fun t121 => (some (decide (t121 ≥ 0)))) else (some true))) = some r := by rw [if_pos rfl] at H; exact H
     clear H
     have H := H1
     clear H1
     replace H := Option.bind_eq_some_iff.mp H
     obtain ⟨t120, A140, H⟩ := H
     replace H : (if t120 = true then ((spec_ReadDec.f k1 a0).bind fun t121 => (some (decide (t121 ≥ 0)))) else (some true)) = some r := H
     have A14 := Aside0.mk A140
     clear A140
     by_cases c15 : t120 = true
     ·subst c15
      have H1 : ((spec_ReadDec.f k1 a0).bind fun t121 => (some (decide (t121 ≥ 0)))) = some r := by rw [if_pos rfl] at H; exact H
      clear H
      have H := H1
      clear H1
      replace H := Option.bind_eq_some_iff.mp H
      obtain ⟨t121, A160, H⟩ := H
      replace H : (some (decide (t121 ≥ 0))) = some r := H
      have A16 := Aside0.mk A160
      clear A160
      obtain rfl := Option.some.inj H
      go_wp2_with (first | ((with_reducible refine gate_callee (f := 56) rfl ?_); refine goesL_ (some 30) rfl rfl Tryz.func56 zb6 rfl #[.int .i64 (a0.size : Int), .int .i64 1, .int .i64 20] rfl zb1 ?_; (with_reducible refine (spec_l01In.calls (a0.size : Int) 1 20 true _ A12.out).mono ?_); rintro e w' ⟨rfl, ⟨nd, rfl⟩⟩; refine ⟨_, rfl, ?_⟩) | (go_at_call 130; (with_reducible refine (spec_l02Digits.calls k1 a0 true _ A14.out).mono ?_); rintro e w' ⟨rfl, ⟨nd, rfl⟩⟩) | (go_at_call 53; (with_reducible refine (spec_ReadDec.calls k1 a0 t121 _ A16.out).mono ?_); rintro e w17 ⟨rfl, hb⟩; have n0_ := Aside0.mk (below_step zb0 hb); clear HB; have HB := n0_; clear n0_; (try clear hb)))
      go_ret
      exact zs3
     ·replace c15 := Bool.eq_false_iff.mpr c15
      subst c15
      have H1 : (some true) = some r := by rw [if_neg (show ¬ (false = true) by decide)] at H; exact H
      clear H
      have H := H1
      clear H1
      obtain rfl := Option.some.inj H
      go_wp2_with (first | ((with_reducible refine gate_callee (f := 56) rfl ?_); refine goesL_ (some 30) rfl rfl Tryz.func56 zb6 rfl #[.int .i64 (a0.size : Int), .int .i64 1, .int .i64 20] rfl zb1 ?_; (with_reducible refine (spec_l01In.calls (a0.size : Int) 1 20 true _ A12.out).mono ?_); rintro e w' ⟨rfl, ⟨nd, rfl⟩⟩; refine ⟨_, rfl, ?_⟩) | (go_at_call 130; (with_reducible refine (spec_l02Digits.calls k1 a0 false _ A14.out).mono ?_); rintro e w' ⟨rfl, ⟨nd, rfl⟩⟩))
      go_ret
      exact zs3
    ·replace c13 := Bool.eq_false_iff.mpr c13
     subst c13
     have H1 : (some false) = some r := by rw [if_neg (show ¬ (false = true) by decide)] at H; exact H
     clear H
     have H := H1
     clear H1
     obtain rfl := Option.some.inj H
     go_wp2_with (first | ((with_reducible refine gate_callee (f := 56) rfl ?_); refine goesL_ (some 30) rfl rfl Tryz.func56 zb6 rfl #[.int .i64 (a0.size : Int), .int .i64 1, .int .i64 20] rfl zb1 ?_; (with_reducible refine (spec_l01In.calls (a0.size : Int) 1 20 false _ A12.out).mono ?_); rintro e w' ⟨rfl, ⟨nd, rfl⟩⟩; refine ⟨_, rfl, ?_⟩))
     go_ret
     exact zs3
def spec_VersionOk.l0 : Nat → Int → Int → Int → Int → List ByteArray → Option (Bool)
 | 0, _, _, _, _, _ => none
 | k + 1, x3, x125000, x125001, x125002, x125003 => if x3 < (x125003.length : Int) then (if 0 ≤ x3 then ((spec_l02Pre.f k (rdOf ByteArray.empty x125003 x3)).bind fun t126 => (if t126 = true then (spec_VersionOk.l0 k (wrap64 (x3 + 1)) x125000 x125001 x125002 x125003) else (some false))) else (none)) else ((spec_l01In.f x125000 0 999999999).bind fun t127 => (if t127 = true then ((spec_l01In.f x125001 0 999999999).bind fun t128 => (if t128 = true then ((spec_l01In.f x125002 0 999999999).bind fun t129 => (if t129 = true then (some (decide ((x125003.length : Int) ≤ 5))) else (some false))) else (some false))) else (some false)))
def spec_VersionOk.f (k : Nat) (a0_0 : Int) (a0_1 : Int) (a0_2 : Int) (l0_3 : List ByteArray) : Option (Bool) := spec_VersionOk.l0 k 0 a0_0 a0_1 a0_2 l0_3
set_option maxRecDepth 100000 in
theorem spec_VersionOk.zl1 {P : Prop} (h : P := by
 go_wp2_with (first | ((with_reducible refine gate_callee (f := 56) rfl ?_); refine goesL_ (some 20) rfl rfl Tryz.func56 zb6 rfl #[.int .i64 a0_0, .int .i64 0, .int .i64 999999999] rfl zb1 ?_; (with_reducible refine (spec_l01In.calls a0_0 0 999999999 true _ A11.out).mono ?_); rintro e w' ⟨rfl, ⟨nd, rfl⟩⟩; refine ⟨_, rfl, ?_⟩) | (go_at_call 56; (with_reducible refine (spec_l01In.calls a0_1 0 999999999 true _ A13.out).mono ?_); rintro e w' ⟨rfl, ⟨nd, rfl⟩⟩) | (go_at_call 56; (with_reducible refine (spec_l01In.calls a0_2 0 999999999 false _ A15.out).mono ?_); rintro e w' ⟨rfl, ⟨nd, rfl⟩⟩) | (go_at_call 56; (with_reducible refine (spec_l01In.calls a0_2 0 999999999 true _ A15.out).mono ?_); rintro e w' ⟨rfl, ⟨nd, rfl⟩⟩) | (go_at_call 56; (with_reducible refine (spec_l01In.calls a0_1 0 999999999 false _ A13.out).mono ?_); rintro e w' ⟨rfl, ⟨nd, rfl⟩⟩))
 go_ret
 exact ⟨zb3, by repeat (first | (with_reducible first | exact HB.out | apply below_alloc | apply pw_below_drewN | apply below_drew1 | refine below_set ?_ GE124.out) | exact HB.out)⟩) : P := h
set_option maxHeartbeats 8000000 in
set_option maxRecDepth 100000 in
theorem spec_VersionOk.calls (k : Nat) (a0_0 : Int) (a0_1 : Int) (a0_2 : Int) (A0_3 : Option Addr) (c0_3 : Nat) (l0_3 : List ByteArray) (r : Bool) (w : World) (hr0_3 : Kd.C Kd.string w A0_3 l0_3.length l0_3) (hc0_3 : l0_3.length ≤ c0_3) (h : spec_VersionOk.f k a0_0 a0_1 a0_2 l0_3 = some r) :
  Calls Tryz.prog 82 #[.agg #[.int .i64 a0_0, .int .i64 a0_1, .int .i64 a0_2, .slice A0_3 l0_3.length c0_3]] w fun e w' => e = .returned (.bool r) ∧ Below w.heap.size w w' := by
 have hu50 := Tryz.underlying50
 have HR0_3 := Aside0.mk hr0_3
 have HC0_3 := Aside0.mk hc0_3
 clear hr0_3 hc0_3
 have HB := Aside0.mk (Below.refl w.heap.size w)
 have H : (spec_VersionOk.l0 k 0 a0_0 a0_1 a0_2 l0_3) = some r := h
 clear h
 have H' := Aside0.mk H
 clear H
 go_enter Tryz.func82, Tryz.ntmps82
 go_wp2_with (first | ((with_reducible refine gate_dst (N := 1) rfl ?_); refine box_event ?hg (N := 1) ?hd (cs := #[.int .i64 a0_0, .int .i64 a0_1, .int .i64 a0_2, .slice A0_3 l0_3.length c0_3]) (t := 50) ?hr ?_; (case hd => rfl); (case hg => rfl); (case hr => first | (go_simp; done) | (go_simp; rfl)); intro gb124 hg w2 hbox hb; have n0_ := Aside0.mk (below_step zb0 hb); have n1_ := Aside0.mk (hbox); have n2_ := Aside0.mk ((by rw [hg]; exact (below_size zb0) : w.heap.size ≤ gb124)); have n3_ := Aside0.mk ((by rw [hg]; exact (below_size zb0) : w.heap.size ≤ gb124)); clear HB; have HB := n0_; have BK124 := n1_; have GW124 := n2_; have GE124 := n3_; clear n0_ n1_ n2_ n3_; clear hb hbox hg))
 go_loopg [3] k (fun kq v3 w' => ∃ (x3_1 : Int), v3 = .int .i64 x3_1 ∧ Aside0 (spec_VersionOk.l0 kq x3_1 a0_0 a0_1 a0_2 l0_3 = some r) ∧ Aside0 (kq ≤ k) ∧ Aside0 (w'.heap[gb124]? = some (.cells #[.int .i64 a0_0, .int .i64 a0_1, .int .i64 a0_2, (.slice A0_3 l0_3.length c0_3)] 50 (0, 0))) ∧ Aside0 (Below w.heap.size w w'))
 case atStart => exact ⟨(0), zb5, H', ⟨Nat.le_refl _⟩, ⟨by (with_reducible repeat (first | refine bN_ ?_ _ | refine bD_ ?_ | refine bA_ ?_ _)); exact BK124.out⟩, ⟨by repeat (first | (with_reducible first | exact HB.out | apply below_alloc | apply pw_below_drewN | apply below_drew1 | refine below_set ?_ GE124.out) | exact HB.out)⟩⟩
 case round =>
  clear H'
  try clear p2
  obtain ⟨x3_1, rfl, HA, HK1, BK124, HB⟩ := hrel
  cases gk with
  | zero => exact absurd HA.out (by simp [spec_VersionOk.l0])
  | succ k1 =>
   have H := HA.out
   clear HA
   simp only [spec_VersionOk.l0] at H
   by_cases c3 : x3_1 < (l0_3.length : Int)
   ·rw [if_pos c3] at H
    have c3b0 : decide (x3_1 < (l0_3.length : Int)) = true := decide_eq_true c3
    clear c3
    by_cases c4 : 0 ≤ x3_1
    ·rw [if_pos c4] at H
     have c4b0 : decide (0 ≤ x3_1) = true := decide_eq_true c4
     clear c4
     replace H := Option.bind_eq_some_iff.mp H
     obtain ⟨t126, A50, H⟩ := H
     replace H : (if t126 = true then (spec_VersionOk.l0 k1 (wrap64 (x3_1 + 1)) a0_0 a0_1 a0_2 l0_3) else (some false)) = some r := H
     have A5 := Aside0.mk A50
     clear A50
     by_cases c6 : t126 = true
     ·subst c6
      have H1 : (spec_VersionOk.l0 k1 (wrap64 (x3_1 + 1)) a0_0 a0_1 a0_2 l0_3) = some r := by rw [if_pos rfl] at H; exact H
      clear H
      have H := H1
      clear H1
      have H' := Aside0.mk H
      clear H
      obtain ⟨hcz7_0, hcz7_1, hcz7_2, hcz7_3, hfz7_0, hfz7_1, hfz7_2, hfz7_3⟩ := blk_4 BK124.out
      have p125 : 0 ≤ (x3_1 : Int) := of_decide_eq_true zb2
      have q125 : x3_1 < (l0_3.length : Int) := of_decide_eq_true zb2
      obtain ⟨ad125, e125, hx125_0⟩ := Kd.at_string HR0_3.out x3_1 p125 q125
      cases e125
      replace hx125_0 := (HB.out.cell (World.block_lt_of_cell? w _ hx125_0)).trans hx125_0
      replace p125 := eq_true p125
      replace q125 := eq_true q125
      go_wp2_with (first | ((with_reducible refine gate_callee (f := 107) rfl ?_); refine goesL_ (some 16) rfl rfl Tryz.func107 zb6 rfl #[.string (rdOf ByteArray.empty l0_3 x3_1)] rfl zb1 ?_; (with_reducible refine (spec_l02Pre.calls k1 (rdOf ByteArray.empty l0_3 x3_1) true _ A5.out).mono ?_); rintro e w8 ⟨rfl, hb⟩; refine ⟨_, rfl, ?_⟩; have n0_ := Aside0.mk (blk_below (g := gb124) (o := .cells #[.int .i64 a0_0, .int .i64 a0_1, .int .i64 a0_2, .slice (some ad125) l0_3.length c0_3] 50 (0, 0)) (by (with_reducible repeat (first | refine bN_ ?_ _ | refine bD_ ?_ | refine bA_ ?_ _)); exact BK124.out) hb); have n1_ := Aside0.mk (below_step (by repeat (first | (with_reducible first | exact HB.out | apply below_alloc | apply pw_below_drewN | apply below_drew1 | refine below_set ?_ GE124.out) | exact HB.out)) hb); clear BK124; clear HB; have BK124 := n0_; have HB := n1_; clear n0_ n1_; (try clear hb)))
      go_roundg k1
      case measure => have := HK1.out; omega
      case rel => exact ⟨(wrap64 (x3_1 + 1)), zb5, H', ⟨by have := HK1.out; omega⟩, ⟨by (with_reducible repeat (first | refine bN_ ?_ _ | refine bD_ ?_ | refine bA_ ?_ _)); exact BK124.out⟩, ⟨by repeat (first | (with_reducible first | exact HB.out | apply below_alloc | apply pw_below_drewN | apply below_drew1 | refine below_set ?_ GE124.out) | exact HB.out)⟩⟩
     ·replace c6 := Bool.eq_false_iff.mpr c6
      subst c6
      have H1 : (some false) = some r := by rw [if_neg (show ¬ (false = true) by decide)] at H; exact H
      clear H
      have H := H1
      clear H1
      obtain rfl := Option.some.inj H
      obtain ⟨hcz9_0, hcz9_1, hcz9_2, hcz9_3, hfz9_0, hfz9_1, hfz9_2, hfz9_3⟩ := blk_4 BK124.out
      have p125 : 0 ≤ (x3_1 : Int) := of_decide_eq_true zb2
      have q125 : x3_1 < (l0_3.length : Int) := of_decide_eq_true zb2
      obtain ⟨ad125, e125, hx125_0⟩ := Kd.at_string HR0_3.out x3_1 p125 q125
      cases e125
      replace hx125_0 := (HB.out.cell (World.block_lt_of_cell? w _ hx125_0)).trans hx125_0
      replace p125 := eq_true p125
      replace q125 := eq_true q125
      go_wp2_with (first | ((with_reducible refine gate_callee (f := 107) rfl ?_); refine goesL_ (some 16) rfl rfl Tryz.func107 zb6 rfl #[.string (rdOf ByteArray.empty l0_3 x3_1)] rfl zb1 ?_; (with_reducible refine (spec_l02Pre.calls k1 (rdOf ByteArray.empty l0_3 x3_1) false _ A5.out).mono ?_); rintro e w10 ⟨rfl, hb⟩; refine ⟨_, rfl, ?_⟩; have n0_ := Aside0.mk (blk_below (g := gb124) (o := .cells #[.int .i64 a0_0, .int .i64 a0_1, .int .i64 a0_2, .slice (some ad125) l0_3.length c0_3] 50 (0, 0)) (by (with_reducible repeat (first | refine bN_ ?_ _ | refine bD_ ?_ | refine bA_ ?_ _)); exact BK124.out) hb); have n1_ := Aside0.mk (below_step (by repeat (first | (with_reducible first | exact HB.out | apply below_alloc | apply pw_below_drewN | apply below_drew1 | refine below_set ?_ GE124.out) | exact HB.out)) hb); clear BK124; clear HB; have BK124 := n0_; have HB := n1_; clear n0_ n1_; (try clear hb)))
      go_ret
      exact ⟨zb3, by repeat (first | (with_reducible first | exact HB.out | apply below_alloc | apply pw_below_drewN | apply below_drew1 | refine below_set ?_ GE124.out) | exact HB.out)⟩
    ·rw [if_neg c4] at H
     exact absurd H (by simp)
   ·rw [if_neg c3] at H
    have c3b0 : decide (x3_1 < (l0_3.length : Int)) = false := decide_eq_false c3
    clear c3
    replace H := Option.bind_eq_some_iff.mp H
    obtain ⟨t127, A110, H⟩ := H
    replace H : (if t127 = true then ((spec_l01In.f a0_1 0 999999999).bind fun t128 => (if t128 = true then ((spec_l01In.f a0_2 0 999999999).bind fun t129 => (if t129 = true then (some (decide ((l0_3.length : Int) ≤ 5))) else (some false))) else (some false))) else (some false)) = some r := H
    have A11 := Aside0.mk A110
    clear A110
    by_cases c12 : t127 = true
    ·subst c12
     have H1 : ((spec_l01In.f a0_1 0 999999999).bind fun t128 => (if t128 = true then ((spec_l01In.f a0_2 0 999999999).bind fun t129 => (if t129 = true then (some (decide ((l0_3.length : Int) ≤ 5))) else (some false))) else (some false))) = some r := by rw [if_pos rfl] at H; exact H
     clear H
     have H := H1
     clear H1
     replace H := Option.bind_eq_some_iff.mp H
     obtain ⟨t128, A130, H⟩ := H
     replace H : (if t128 = true then ((spec_l01In.f a0_2 0 999999999).bind fun t129 => (if t129 = true then (some (decide ((l0_3.length : Int) ≤ 5))) else (some false))) else (some false)) = some r := H
     have A13 := Aside0.mk A130
     clear A130
     by_cases c14 : t128 = true
     ·subst c14
      have H1 : ((spec_l01In.f a0_2 0 999999999).bind fun t129 => (if t129 = true then (some (decide ((l0_3.length : Int) ≤ 5))) else (some false))) = some r := by rw [if_pos rfl] at H; exact H
      clear H
      have H := H1
      clear H1
      replace H := Option.bind_eq_some_iff.mp H
      obtain ⟨t129, A150, H⟩ := H
      replace H : (if t129 = true then (some (decide ((l0_3.length : Int) ≤ 5))) else (some false)) = some r := H
      have A15 := Aside0.mk A150
      clear A150
      by_cases c16 : t129 = true
      ·subst c16
       have H1 : (some (decide ((l0_3.length : Int) ≤ 5))) = some r := by rw [if_pos rfl] at H; exact H
       clear H
       have H := H1
       clear H1
       obtain rfl := Option.some.inj H
       obtain ⟨hcz17_0, hcz17_1, hcz17_2, hcz17_3, hfz17_0, hfz17_1, hfz17_2, hfz17_3⟩ := blk_4 BK124.out
       exact spec_VersionOk.zl1
      ·replace c16 := Bool.eq_false_iff.mpr c16
       subst c16
       have H1 : (some false) = some r := by rw [if_neg (show ¬ (false = true) by decide)] at H; exact H
       clear H
       have H := H1
       clear H1
       obtain rfl := Option.some.inj H
       obtain ⟨hcz18_0, hcz18_1, hcz18_2, hcz18_3, hfz18_0, hfz18_1, hfz18_2, hfz18_3⟩ := blk_4 BK124.out
       exact spec_VersionOk.zl1
     ·replace c14 := Bool.eq_false_iff.mpr c14
      subst c14
      have H1 : (some false) = some r := by rw [if_neg (show ¬ (false = true) by decide)] at H; exact H
      clear H
      have H := H1
      clear H1
      obtain rfl := Option.some.inj H
      obtain ⟨hcz19_0, hcz19_1, hcz19_2, hcz19_3, hfz19_0, hfz19_1, hfz19_2, hfz19_3⟩ := blk_4 BK124.out
      exact spec_VersionOk.zl1
    ·replace c12 := Bool.eq_false_iff.mpr c12
     subst c12
     have H1 : (some false) = some r := by rw [if_neg (show ¬ (false = true) by decide)] at H; exact H
     clear H
     have H := H1
     clear H1
     obtain rfl := Option.some.inj H
     obtain ⟨hcz20_0, hcz20_1, hcz20_2, hcz20_3, hfz20_0, hfz20_1, hfz20_2, hfz20_3⟩ := blk_4 BK124.out
     go_wp2_with (first | ((with_reducible refine gate_callee (f := 56) rfl ?_); refine goesL_ (some 20) rfl rfl Tryz.func56 zb6 rfl #[.int .i64 a0_0, .int .i64 0, .int .i64 999999999] rfl zb1 ?_; (with_reducible refine (spec_l01In.calls a0_0 0 999999999 false _ A11.out).mono ?_); rintro e w' ⟨rfl, ⟨nd, rfl⟩⟩; refine ⟨_, rfl, ?_⟩))
     go_ret
     exact ⟨zb3, by repeat (first | (with_reducible first | exact HB.out | apply below_alloc | apply pw_below_drewN | apply below_drew1 | refine below_set ?_ GE124.out) | exact HB.out)⟩
def spec_VersionText.l0 : Nat → ByteArray → Int → Int → Int → Int → List ByteArray → Option (ByteArray)
 | 0, _, _, _, _, _, _ => none
 | k + 1, x3, x4, x131000, x131001, x131002, x131003 => if x4 < (x131003.length : Int) then (if x4 = 0 then (if x3.size + 1 ≤ 9223372036854775807 then (if 0 ≤ x4 then (if (x3 ++ (⟨#[45]⟩ : ByteArray)).size + (rdOf ByteArray.empty x131003 x4).size ≤ 9223372036854775807 then (spec_VersionText.l0 k ((x3 ++ (⟨#[45]⟩ : ByteArray)) ++ (rdOf ByteArray.empty x131003 x4)) (wrap64 (x4 + 1)) x131000 x131001 x131002 x131003) else (none)) else (none)) else (none)) else (if x3.size + 1 ≤ 9223372036854775807 then (if 0 ≤ x4 then (if (x3 ++ (⟨#[46]⟩ : ByteArray)).size + (rdOf ByteArray.empty x131003 x4).size ≤ 9223372036854775807 then (spec_VersionText.l0 k ((x3 ++ (⟨#[46]⟩ : ByteArray)) ++ (rdOf ByteArray.empty x131003 x4)) (wrap64 (x4 + 1)) x131000 x131001 x131002 x131003) else (none)) else (none)) else (none))) else (some x3)
def spec_VersionText.f (k : Nat) (a0_0 : Int) (a0_1 : Int) (a0_2 : Int) (l0_3 : List ByteArray) : Option (ByteArray) := (spec_VersionOk.f k a0_0 a0_1 a0_2 l0_3).bind fun t131 => (if t131 = true then ((spec_DecText.f k a0_0).bind fun t132 => (if t132.size + 1 ≤ 9223372036854775807 then ((spec_DecText.f k a0_1).bind fun t133 => (if (t132 ++ (⟨#[46]⟩ : ByteArray)).size + t133.size ≤ 9223372036854775807 then (if ((t132 ++ (⟨#[46]⟩ : ByteArray)) ++ t133).size + 1 ≤ 9223372036854775807 then ((spec_DecText.f k a0_2).bind fun t134 => (if (((t132 ++ (⟨#[46]⟩ : ByteArray)) ++ t133) ++ (⟨#[46]⟩ : ByteArray)).size + t134.size ≤ 9223372036854775807 then (spec_VersionText.l0 k ((((t132 ++ (⟨#[46]⟩ : ByteArray)) ++ t133) ++ (⟨#[46]⟩ : ByteArray)) ++ t134) 0 a0_0 a0_1 a0_2 l0_3) else (none))) else (none)) else (none))) else (none))) else (some (⟨#[]⟩ : ByteArray)))
set_option maxHeartbeats 8000000 in
set_option maxRecDepth 100000 in
theorem spec_VersionText.calls (k : Nat) (a0_0 : Int) (a0_1 : Int) (a0_2 : Int) (A0_3 : Option Addr) (c0_3 : Nat) (l0_3 : List ByteArray) (r : ByteArray) (w : World) (hr0_3 : Kd.C Kd.string w A0_3 l0_3.length l0_3) (hc0_3 : l0_3.length ≤ c0_3) (h : spec_VersionText.f k a0_0 a0_1 a0_2 l0_3 = some r) :
  Calls Tryz.prog 54 #[.agg #[.int .i64 a0_0, .int .i64 a0_1, .int .i64 a0_2, .slice A0_3 l0_3.length c0_3]] w fun e w' => e = .returned (.string r) ∧ Below w.heap.size w w' := by
 have hu50 := Tryz.underlying50
 have HR0_3 := Aside0.mk hr0_3
 have HC0_3 := Aside0.mk hc0_3
 clear hr0_3 hc0_3
 have HB := Aside0.mk (Below.refl w.heap.size w)
 have H : ((spec_VersionOk.f k a0_0 a0_1 a0_2 l0_3).bind fun t131 => (if t131 = true then ((spec_DecText.f k a0_0).bind fun t132 => (if t132.size + 1 ≤ 9223372036854775807 then ((spec_DecText.f k a0_1).bind fun t133 => (if (t132 ++ (⟨#[46]⟩ : ByteArray)).size + t133.size ≤ 9223372036854775807 then (if ((t132 ++ (⟨#[46]⟩ : ByteArray)) ++ t133).size + 1 ≤ 9223372036854775807 then ((spec_DecText.f k a0_2).bind fun t134 => (if (((t132 ++ (⟨#[46]⟩ : ByteArray)) ++ t133) ++ (⟨#[46]⟩ : ByteArray)).size + t134.size ≤ 9223372036854775807 then (spec_VersionText.l0 k ((((t132 ++ (⟨#[46]⟩ : ByteArray)) ++ t133) ++ (⟨#[46]⟩ : ByteArray)) ++ t134) 0 a0_0 a0_1 a0_2 l0_3) else (none))) else (none)) else (none))) else (none))) else (some (⟨#[]⟩ : ByteArray)))) = some r := h
 clear h
 replace H := Option.bind_eq_some_iff.mp H
 obtain ⟨t131, A20, H⟩ := H
 replace H : (if t131 = true then ((spec_DecText.f k a0_0).bind fun t132 => (if t132.size + 1 ≤ 9223372036854775807 then ((spec_DecText.f k a0_1).bind fun t133 => (if (t132 ++ (⟨#[46]⟩ : ByteArray)).size + t133.size ≤ 9223372036854775807 then (if ((t132 ++ (⟨#[46]⟩ : ByteArray)) ++ t133).size + 1 ≤ 9223372036854775807 then ((spec_DecText.f k a0_2).bind fun t134 => (if (((t132 ++ (⟨#[46]⟩ : ByteArray)) ++ t133) ++ (⟨#[46]⟩ : ByteArray)).size + t134.size ≤ 9223372036854775807 then (spec_VersionText.l0 k ((((t132 ++ (⟨#[46]⟩ : ByteArray)) ++ t133) ++ (⟨#[46]⟩ : ByteArray)) ++ t134) 0 a0_0 a0_1 a0_2 l0_3) else (none))) else (none)) else (none))) else (none))) else (some (⟨#[]⟩ : ByteArray))) = some r := H
 have A2 := Aside0.mk A20
 clear A20
 by_cases c3 : t131 = true
 ·subst c3
  have H1 : ((spec_DecText.f k a0_0).bind fun t132 => (if t132.size + 1 ≤ 9223372036854775807 then ((spec_DecText.f k a0_1).bind fun t133 => (if (t132 ++ (⟨#[46]⟩ : ByteArray)).size + t133.size ≤ 9223372036854775807 then (if ((t132 ++ (⟨#[46]⟩ : ByteArray)) ++ t133).size + 1 ≤ 9223372036854775807 then ((spec_DecText.f k a0_2).bind fun t134 => (if (((t132 ++ (⟨#[46]⟩ : ByteArray)) ++ t133) ++ (⟨#[46]⟩ : ByteArray)).size + t134.size ≤ 9223372036854775807 then (spec_VersionText.l0 k ((((t132 ++ (⟨#[46]⟩ : ByteArray)) ++ t133) ++ (⟨#[46]⟩ : ByteArray)) ++ t134) 0 a0_0 a0_1 a0_2 l0_3) else (none))) else (none)) else (none))) else (none))) = some r := by rw [if_pos rfl] at H; exact H
  clear H
  have H := H1
  clear H1
  replace H := Option.bind_eq_some_iff.mp H
  obtain ⟨t132, A40, H⟩ := H
  replace H : (if t132.size + 1 ≤ 9223372036854775807 then ((spec_DecText.f k a0_1).bind fun t133 => (if (t132 ++ (⟨#[46]⟩ : ByteArray)).size + t133.size ≤ 9223372036854775807 then (if ((t132 ++ (⟨#[46]⟩ : ByteArray)) ++ t133).size + 1 ≤ 9223372036854775807 then ((spec_DecText.f k a0_2).bind fun t134 => (if (((t132 ++ (⟨#[46]⟩ : ByteArray)) ++ t133) ++ (⟨#[46]⟩ : ByteArray)).size + t134.size ≤ 9223372036854775807 then (spec_VersionText.l0 k ((((t132 ++ (⟨#[46]⟩ : ByteArray)) ++ t133) ++ (⟨#[46]⟩ : ByteArray)) ++ t134) 0 a0_0 a0_1 a0_2 l0_3) else (none))) else (none)) else (none))) else (none)) = some r := H
  have A4 := Aside0.mk A40
  clear A40
  by_cases c5 : t132.size + 1 ≤ 9223372036854775807
  ·rw [if_pos c5] at H
   have c5b0 := eq_true c5
   have c5b1 : decide (t132.size + 1 ≤ 9223372036854775807) = true := decide_eq_true c5
   try have c5b2 : (9223372036854775807 < t132.size + 1) = False := eq_false (Nat.not_lt.2 c5)
   obtain ⟨js6, hjs6⟩ : ∃ j_ : ByteArray, (t132 ++ (⟨#[46]⟩ : ByteArray)) = j_ := ⟨_, rfl⟩
   replace H : ((spec_DecText.f k a0_1).bind fun t133 => (if (js6).size + t133.size ≤ 9223372036854775807 then (if ((js6) ++ t133).size + 1 ≤ 9223372036854775807 then ((spec_DecText.f k a0_2).bind fun t134 => (if (((js6) ++ t133) ++ (⟨#[46]⟩ : ByteArray)).size + t134.size ≤ 9223372036854775807 then (spec_VersionText.l0 k ((((js6) ++ t133) ++ (⟨#[46]⟩ : ByteArray)) ++ t134) 0 a0_0 a0_1 a0_2 l0_3) else (none))) else (none)) else (none))) = some r := by first | (rw [hjs6] at H; exact H) | (simp only [hjs6] at H ⊢; exact H)
   (try rw [hjs6] at A2)
   (try rw [hjs6] at A4)
   replace H := Option.bind_eq_some_iff.mp H
   obtain ⟨t133, A70, H⟩ := H
   replace H : (if (js6).size + t133.size ≤ 9223372036854775807 then (if ((js6) ++ t133).size + 1 ≤ 9223372036854775807 then ((spec_DecText.f k a0_2).bind fun t134 => (if (((js6) ++ t133) ++ (⟨#[46]⟩ : ByteArray)).size + t134.size ≤ 9223372036854775807 then (spec_VersionText.l0 k ((((js6) ++ t133) ++ (⟨#[46]⟩ : ByteArray)) ++ t134) 0 a0_0 a0_1 a0_2 l0_3) else (none))) else (none)) else (none)) = some r := H
   have A7 := Aside0.mk A70
   clear A70
   by_cases c8 : (js6).size + t133.size ≤ 9223372036854775807
   ·rw [if_pos c8] at H
    have c8b0 := eq_true c8
    have c8b1 : decide ((js6).size + t133.size ≤ 9223372036854775807) = true := decide_eq_true c8
    try have c8b2 : (9223372036854775807 < (js6).size + t133.size) = False := eq_false (Nat.not_lt.2 c8)
    obtain ⟨js9, hjs9⟩ : ∃ j_ : ByteArray, ((js6) ++ t133) = j_ := ⟨_, rfl⟩
    replace H : (if (js9).size + 1 ≤ 9223372036854775807 then ((spec_DecText.f k a0_2).bind fun t134 => (if ((js9) ++ (⟨#[46]⟩ : ByteArray)).size + t134.size ≤ 9223372036854775807 then (spec_VersionText.l0 k (((js9) ++ (⟨#[46]⟩ : ByteArray)) ++ t134) 0 a0_0 a0_1 a0_2 l0_3) else (none))) else (none)) = some r := by first | (rw [hjs9] at H; exact H) | (simp only [hjs9] at H ⊢; exact H)
    (try rw [hjs9] at A2)
    (try rw [hjs9] at A4)
    (try rw [hjs9] at A7)
    by_cases c10 : (js9).size + 1 ≤ 9223372036854775807
    ·rw [if_pos c10] at H
     have c10b0 := eq_true c10
     have c10b1 : decide ((js9).size + 1 ≤ 9223372036854775807) = true := decide_eq_true c10
     try have c10b2 : (9223372036854775807 < (js9).size + 1) = False := eq_false (Nat.not_lt.2 c10)
     obtain ⟨js11, hjs11⟩ : ∃ j_ : ByteArray, ((js9) ++ (⟨#[46]⟩ : ByteArray)) = j_ := ⟨_, rfl⟩
     replace H : ((spec_DecText.f k a0_2).bind fun t134 => (if (js11).size + t134.size ≤ 9223372036854775807 then (spec_VersionText.l0 k ((js11) ++ t134) 0 a0_0 a0_1 a0_2 l0_3) else (none))) = some r := by first | (rw [hjs11] at H; exact H) | (simp only [hjs11] at H ⊢; exact H)
     (try rw [hjs11] at A2)
     (try rw [hjs11] at A4)
     (try rw [hjs11] at A7)
     replace H := Option.bind_eq_some_iff.mp H
     obtain ⟨t134, A120, H⟩ := H
     replace H : (if (js11).size + t134.size ≤ 9223372036854775807 then (spec_VersionText.l0 k ((js11) ++ t134) 0 a0_0 a0_1 a0_2 l0_3) else (none)) = some r := H
     have A12 := Aside0.mk A120
     clear A120
     by_cases c13 : (js11).size + t134.size ≤ 9223372036854775807
     ·rw [if_pos c13] at H
      have c13b0 := eq_true c13
      have c13b1 : decide ((js11).size + t134.size ≤ 9223372036854775807) = true := decide_eq_true c13
      try have c13b2 : (9223372036854775807 < (js11).size + t134.size) = False := eq_false (Nat.not_lt.2 c13)
      obtain ⟨js14, hjs14⟩ : ∃ j_ : ByteArray, ((js11) ++ t134) = j_ := ⟨_, rfl⟩
      replace H : (spec_VersionText.l0 k js14 0 a0_0 a0_1 a0_2 l0_3) = some r := by first | (rw [hjs14] at H; exact H) | (simp only [hjs14] at H ⊢; exact H)
      (try rw [hjs14] at A2)
      (try rw [hjs14] at A4)
      (try rw [hjs14] at A7)
      (try rw [hjs14] at A12)
      have H' := Aside0.mk H
      clear H
      go_enter Tryz.func54, Tryz.ntmps54
      go_wp2_with (first | ((with_reducible refine gate_dst (N := 1) rfl ?_); refine box_event ?hg (N := 1) ?hd (cs := #[.int .i64 a0_0, .int .i64 a0_1, .int .i64 a0_2, .slice A0_3 l0_3.length c0_3]) (t := 50) ?hr ?_; (case hd => rfl); (case hg => rfl); (case hr => first | (go_simp; done) | (go_simp; rfl)); intro gb130 hg w15 hbox hb; have n0_ := Aside0.mk (below_step zb0 hb); have n1_ := Aside0.mk (hbox); have n2_ := Aside0.mk ((by rw [hg]; exact (below_size zb0) : w.heap.size ≤ gb130)); have n3_ := Aside0.mk ((by rw [hg]; exact (below_size zb0) : w.heap.size ≤ gb130)); clear HB; have HB := n0_; have BK130 := n1_; have GW130 := n2_; have GE130 := n3_; clear n0_ n1_ n2_ n3_; clear hb hbox hg; obtain ⟨hcz16_0, hcz16_1, hcz16_2, hcz16_3, hfz16_0, hfz16_1, hfz16_2, hfz16_3⟩ := blk_4 BK130.out) | (go_at_call 82; (with_reducible refine (spec_VersionOk.calls k a0_0 a0_1 a0_2 _ _ l0_3 true _ ?side1 ?side2 A2.out).mono ?_); (case side1 => repeat (first | exact (Kd.C_below HR0_3.out HB.out) | (with_reducible refine Kd.C_alloc ?_ _) | (with_reducible refine Kd.C_drewN ?_ _) | (with_reducible refine Kd.C_drew ?_))); (case side2 => exact HC0_3.out); rintro e w17 ⟨rfl, hb⟩; have n0_ := Aside0.mk (blk_below (g := gb130) (o := .cells #[.int .i64 a0_0, .int .i64 a0_1, .int .i64 a0_2, .slice A0_3 l0_3.length c0_3] 50 (0, 0)) (by (with_reducible repeat (first | refine bN_ ?_ _ | refine bD_ ?_ | refine bA_ ?_ _)); exact BK130.out) hb); have n1_ := Aside0.mk (below_step (by repeat (first | (with_reducible first | exact HB.out | apply below_alloc | apply pw_below_drewN | apply below_drew1 | refine below_set ?_ GE130.out) | exact HB.out)) hb); clear BK130; clear HB; have BK130 := n0_; have HB := n1_; clear n0_ n1_; (try clear hb); obtain ⟨hcz18_0, hcz18_1, hcz18_2, hcz18_3, hfz18_0, hfz18_1, hfz18_2, hfz18_3⟩ := blk_4 BK130.out) | (go_at_call 81; (with_reducible refine (spec_DecText.calls k a0_0 t132 _ A4.out).mono ?_); rintro e w' ⟨rfl, ⟨nd, rfl⟩⟩; (try first | exact ⟨rfl, _, World.drewN_drewN _ _ _⟩ | exact ⟨rfl, _, Eq.trans (World.drewN_drewN _ _ _) (congrArg (World.drewN _) (Nat.add_assoc _ _ _))⟩)) | (go_at_call 81; (with_reducible refine (spec_DecText.calls k a0_1 t133 _ A7.out).mono ?_); rintro e w' ⟨rfl, ⟨nd, rfl⟩⟩; (try first | exact ⟨rfl, _, World.drewN_drewN _ _ _⟩ | exact ⟨rfl, _, Eq.trans (World.drewN_drewN _ _ _) (congrArg (World.drewN _) (Nat.add_assoc _ _ _))⟩)) | (go_at_call 81; (with_reducible refine (spec_DecText.calls k a0_2 t134 _ A12.out).mono ?_); rintro e w' ⟨rfl, ⟨nd, rfl⟩⟩; (try first | exact ⟨rfl, _, World.drewN_drewN _ _ _⟩ | exact ⟨rfl, _, Eq.trans (World.drewN_drewN _ _ _) (congrArg (World.drewN _) (Nat.add_assoc _ _ _))⟩)))
      repeat (go_quiet (first | ((with_reducible refine gate_dst (N := 1) rfl ?_); refine box_event ?hg (N := 1) ?hd (cs := #[.int .i64 a0_0, .int .i64 a0_1, .int .i64 a0_2, .slice A0_3 l0_3.length c0_3]) (t := 50) ?hr ?_; (case hd => rfl); (case hg => rfl); (case hr => first | (go_simp; done) | (go_simp; rfl)); intro gb130 hg w15 hbox hb; have n0_ := Aside0.mk (below_step zb0 hb); have n1_ := Aside0.mk (hbox); have n2_ := Aside0.mk ((by rw [hg]; exact (below_size zb0) : w.heap.size ≤ gb130)); have n3_ := Aside0.mk ((by rw [hg]; exact (below_size zb0) : w.heap.size ≤ gb130)); clear HB; have HB := n0_; have BK130 := n1_; have GW130 := n2_; have GE130 := n3_; clear n0_ n1_ n2_ n3_; clear hb hbox hg; obtain ⟨hcz16_0, hcz16_1, hcz16_2, hcz16_3, hfz16_0, hfz16_1, hfz16_2, hfz16_3⟩ := blk_4 BK130.out) | (go_at_call 82; (with_reducible refine (spec_VersionOk.calls k a0_0 a0_1 a0_2 _ _ l0_3 true _ ?side1 ?side2 A2.out).mono ?_); (case side1 => repeat (first | exact (Kd.C_below HR0_3.out HB.out) | (with_reducible refine Kd.C_alloc ?_ _) | (with_reducible refine Kd.C_drewN ?_ _) | (with_reducible refine Kd.C_drew ?_))); (case side2 => exact HC0_3.out); rintro e w17 ⟨rfl, hb⟩; have n0_ := Aside0.mk (blk_below (g := gb130) (o := .cells #[.int .i64 a0_0, .int .i64 a0_1, .int .i64 a0_2, .slice A0_3 l0_3.length c0_3] 50 (0, 0)) (by (with_reducible repeat (first | refine bN_ ?_ _ | refine bD_ ?_ | refine bA_ ?_ _)); exact BK130.out) hb); have n1_ := Aside0.mk (below_step (by repeat (first | (with_reducible first | exact HB.out | apply below_alloc | apply pw_below_drewN | apply below_drew1 | refine below_set ?_ GE130.out) | exact HB.out)) hb); clear BK130; clear HB; have BK130 := n0_; have HB := n1_; clear n0_ n1_; (try clear hb); obtain ⟨hcz18_0, hcz18_1, hcz18_2, hcz18_3, hfz18_0, hfz18_1, hfz18_2, hfz18_3⟩ := blk_4 BK130.out) | (go_at_call 81; (with_reducible refine (spec_DecText.calls k a0_0 t132 _ A4.out).mono ?_); rintro e w' ⟨rfl, ⟨nd, rfl⟩⟩; (try first | exact ⟨rfl, _, World.drewN_drewN _ _ _⟩ | exact ⟨rfl, _, Eq.trans (World.drewN_drewN _ _ _) (congrArg (World.drewN _) (Nat.add_assoc _ _ _))⟩)) | (go_at_call 81; (with_reducible refine (spec_DecText.calls k a0_1 t133 _ A7.out).mono ?_); rintro e w' ⟨rfl, ⟨nd, rfl⟩⟩; (try first | exact ⟨rfl, _, World.drewN_drewN _ _ _⟩ | exact ⟨rfl, _, Eq.trans (World.drewN_drewN _ _ _) (congrArg (World.drewN _) (Nat.add_assoc _ _ _))⟩)) | (go_at_call 81; (with_reducible refine (spec_DecText.calls k a0_2 t134 _ A12.out).mono ?_); rintro e w' ⟨rfl, ⟨nd, rfl⟩⟩; (try first | exact ⟨rfl, _, World.drewN_drewN _ _ _⟩ | exact ⟨rfl, _, Eq.trans (World.drewN_drewN _ _ _) (congrArg (World.drewN _) (Nat.add_assoc _ _ _))⟩))); try go_wp2_with (first | ((with_reducible refine gate_dst (N := 1) rfl ?_); refine box_event ?hg (N := 1) ?hd (cs := #[.int .i64 a0_0, .int .i64 a0_1, .int .i64 a0_2, .slice A0_3 l0_3.length c0_3]) (t := 50) ?hr ?_; (case hd => rfl); (case hg => rfl); (case hr => first | (go_simp; done) | (go_simp; rfl)); intro gb130 hg w15 hbox hb; have n0_ := Aside0.mk (below_step zb0 hb); have n1_ := Aside0.mk (hbox); have n2_ := Aside0.mk ((by rw [hg]; exact (below_size zb0) : w.heap.size ≤ gb130)); have n3_ := Aside0.mk ((by rw [hg]; exact (below_size zb0) : w.heap.size ≤ gb130)); clear HB; have HB := n0_; have BK130 := n1_; have GW130 := n2_; have GE130 := n3_; clear n0_ n1_ n2_ n3_; clear hb hbox hg; obtain ⟨hcz16_0, hcz16_1, hcz16_2, hcz16_3, hfz16_0, hfz16_1, hfz16_2, hfz16_3⟩ := blk_4 BK130.out) | (go_at_call 82; (with_reducible refine (spec_VersionOk.calls k a0_0 a0_1 a0_2 _ _ l0_3 true _ ?side1 ?side2 A2.out).mono ?_); (case side1 => repeat (first | exact (Kd.C_below HR0_3.out HB.out) | (with_reducible refine Kd.C_alloc ?_ _) | (with_reducible refine Kd.C_drewN ?_ _) | (with_reducible refine Kd.C_drew ?_))); (case side2 => exact HC0_3.out); rintro e w17 ⟨rfl, hb⟩; have n0_ := Aside0.mk (blk_below (g := gb130) (o := .cells #[.int .i64 a0_0, .int .i64 a0_1, .int .i64 a0_2, .slice A0_3 l0_3.length c0_3] 50 (0, 0)) (by (with_reducible repeat (first | refine bN_ ?_ _ | refine bD_ ?_ | refine bA_ ?_ _)); exact BK130.out) hb); have n1_ := Aside0.mk (below_step (by repeat (first | (with_reducible first | exact HB.out | apply below_alloc | apply pw_below_drewN | apply below_drew1 | refine below_set ?_ GE130.out) | exact HB.out)) hb); clear BK130; clear HB; have BK130 := n0_; have HB := n1_; clear n0_ n1_; (try clear hb); obtain ⟨hcz18_0, hcz18_1, hcz18_2, hcz18_3, hfz18_0, hfz18_1, hfz18_2, hfz18_3⟩ := blk_4 BK130.out) | (go_at_call 81; (with_reducible refine (spec_DecText.calls k a0_0 t132 _ A4.out).mono ?_); rintro e w' ⟨rfl, ⟨nd, rfl⟩⟩; (try first | exact ⟨rfl, _, World.drewN_drewN _ _ _⟩ | exact ⟨rfl, _, Eq.trans (World.drewN_drewN _ _ _) (congrArg (World.drewN _) (Nat.add_assoc _ _ _))⟩)) | (go_at_call 81; (with_reducible refine (spec_DecText.calls k a0_1 t133 _ A7.out).mono ?_); rintro e w' ⟨rfl, ⟨nd, rfl⟩⟩; (try first | exact ⟨rfl, _, World.drewN_drewN _ _ _⟩ | exact ⟨rfl, _, Eq.trans (World.drewN_drewN _ _ _) (congrArg (World.drewN _) (Nat.add_assoc _ _ _))⟩)) | (go_at_call 81; (with_reducible refine (spec_DecText.calls k a0_2 t134 _ A12.out).mono ?_); rintro e w' ⟨rfl, ⟨nd, rfl⟩⟩; (try first | exact ⟨rfl, _, World.drewN_drewN _ _ _⟩ | exact ⟨rfl, _, Eq.trans (World.drewN_drewN _ _ _) (congrArg (World.drewN _) (Nat.add_assoc _ _ _))⟩))))
      go_loopg [3, 4] k (fun kq v3 v4 w' => ∃ (x3_1 : ByteArray) (x4_1 : Int), v3 = .string x3_1 ∧ v4 = .int .i64 x4_1 ∧ Aside0 (spec_VersionText.l0 kq x3_1 x4_1 a0_0 a0_1 a0_2 l0_3 = some r) ∧ Aside0 (kq ≤ k) ∧ Aside0 (w'.heap[gb130]? = some (.cells #[.int .i64 a0_0, .int .i64 a0_1, .int .i64 a0_2, (.slice A0_3 l0_3.length c0_3)] 50 (0, 0))) ∧ Aside0 (Below w.heap.size w w'))
      case atStart => exact ⟨(js14), (0), (by first | rfl | (simp; done) | (simp only [← hjs14] <;> (first | rfl | simp)) | (simp [*]; done)), zb5, H', ⟨Nat.le_refl _⟩, ⟨by (with_reducible repeat (first | refine bN_ ?_ _ | refine bD_ ?_ | refine bA_ ?_ _)); exact BK130.out⟩, ⟨by repeat (first | (with_reducible first | exact HB.out | apply below_alloc | apply pw_below_drewN | apply below_drew1 | refine below_set ?_ GE130.out) | exact HB.out)⟩⟩
      case round =>
       clear H'
       try clear c1
       try clear p2
       try clear c3
       try clear c5
       try clear c5b0
       try clear c5b1
       try clear c5b2
       try clear c8
       try clear c8b0
       try clear c8b1
       try clear c8b2
       try clear c10
       try clear c10b0
       try clear c10b1
       try clear c10b2
       try clear c13
       try clear c13b0
       try clear c13b1
       try clear c13b2
       try clear hcz16_0
       try clear hcz16_1
       try clear hcz16_2
       try clear hcz16_3
       try clear hcz18_0
       try clear hcz18_1
       try clear hcz18_2
       try clear hcz18_3
       try clear hfz16_0
       try clear hfz16_1
       try clear hfz16_2
       try clear hfz16_3
       try clear hfz18_0
       try clear hfz18_1
       try clear hfz18_2
       try clear hfz18_3
       obtain ⟨x3_1, x4_1, rfl, rfl, HA, HK1, BK130, HB⟩ := hrel
       cases gk with
       | zero => exact absurd HA.out (by simp [spec_VersionText.l0])
       | succ k1 =>
        have H := HA.out
        clear HA
        simp only [spec_VersionText.l0] at H
        by_cases c19 : x4_1 < (l0_3.length : Int)
        ·rw [if_pos c19] at H
         have c19b0 : decide (x4_1 < (l0_3.length : Int)) = true := decide_eq_true c19
         clear c19
         by_cases c20 : x4_1 = 0
         ·rw [if_pos c20] at H
          have c20b0 : (x4_1 == 0) = true := beq_iff_eq.mpr c20
          have c20b1 : (x4_1 != 0) = false := bne_eq_false_iff_eq.mpr c20
          clear c20
          by_cases c21 : x3_1.size + 1 ≤ 9223372036854775807
          ·rw [if_pos c21] at H
           have c21b0 := eq_true c21
           have c21b1 : decide (x3_1.size + 1 ≤ 9223372036854775807) = true := decide_eq_true c21
           try have c21b2 : (9223372036854775807 < x3_1.size + 1) = False := eq_false (Nat.not_lt.2 c21)
           obtain ⟨js22, hjs22⟩ : ∃ j_ : ByteArray, (x3_1 ++ (⟨#[45]⟩ : ByteArray)) = j_ := ⟨_, rfl⟩
           replace H : (if 0 ≤ x4_1 then (if (js22).size + (rdOf ByteArray.empty l0_3 x4_1).size ≤ 9223372036854775807 then (spec_VersionText.l0 k1 ((js22) ++ (rdOf ByteArray.empty l0_3 x4_1)) (wrap64 (x4_1 + 1)) a0_0 a0_1 a0_2 l0_3) else (none)) else (none)) = some r := by first | (rw [hjs22] at H; exact H) | (simp only [hjs22] at H ⊢; exact H)
           by_cases c23 : 0 ≤ x4_1
           ·rw [if_pos c23] at H
            have c23b0 : decide (0 ≤ x4_1) = true := decide_eq_true c23
            clear c23
            by_cases c24 : (js22).size + (rdOf ByteArray.empty l0_3 x4_1).size ≤ 9223372036854775807
            ·rw [if_pos c24] at H
             have c24b0 := eq_true c24
             have c24b1 : decide ((js22).size + (rdOf ByteArray.empty l0_3 x4_1).size ≤ 9223372036854775807) = true := decide_eq_true c24
             try have c24b2 : (9223372036854775807 < (js22).size + (rdOf ByteArray.empty l0_3 x4_1).size) = False := eq_false (Nat.not_lt.2 c24)
             obtain ⟨js25, hjs25⟩ : ∃ j_ : ByteArray, ((js22) ++ (rdOf ByteArray.empty l0_3 x4_1)) = j_ := ⟨_, rfl⟩
             replace H : (spec_VersionText.l0 k1 js25 (wrap64 (x4_1 + 1)) a0_0 a0_1 a0_2 l0_3) = some r := by first | (rw [hjs25] at H; exact H) | (simp only [hjs25] at H ⊢; exact H)
             have H' := Aside0.mk H
             clear H
             obtain ⟨hcz26_0, hcz26_1, hcz26_2, hcz26_3, hfz26_0, hfz26_1, hfz26_2, hfz26_3⟩ := blk_4 BK130.out
             have p135 : 0 ≤ (x4_1 : Int) := of_decide_eq_true zb2
             have q135 : x4_1 < (l0_3.length : Int) := of_decide_eq_true zb2
             obtain ⟨ad135, e135, hx135_0⟩ := Kd.at_string HR0_3.out x4_1 p135 q135
             cases e135
             replace hx135_0 := (HB.out.cell (World.block_lt_of_cell? w _ hx135_0)).trans hx135_0
             replace p135 := eq_true p135
             replace q135 := eq_true q135
             go_wp2
             repeat (go_quiet (fail); try go_wp2)
             go_roundg k1
             case measure => have := HK1.out; omega
             case rel => exact ⟨(js25), (wrap64 (x4_1 + 1)), (by first | rfl | (simp; done) | (simp only [← hjs25] <;> (first | rfl | simp)) | (simp [*]; done)), zb5, H', ⟨by have := HK1.out; omega⟩, ⟨by (with_reducible repeat (first | refine bN_ ?_ _ | refine bD_ ?_ | refine bA_ ?_ _)); exact BK130.out⟩, ⟨by repeat (first | (with_reducible first | exact HB.out | apply below_alloc | apply pw_below_drewN | apply below_drew1 | refine below_set ?_ GE130.out) | exact HB.out)⟩⟩
            ·rw [if_neg c24] at H
             exact absurd H (by simp)
           ·rw [if_neg c23] at H
            exact absurd H (by simp)
          ·rw [if_neg c21] at H
           exact absurd H (by simp)
         ·rw [if_neg c20] at H
          have c20b0 : (x4_1 == 0) = false := beq_eq_false_iff_ne.mpr c20
          have c20b1 : (x4_1 != 0) = true := bne_iff_ne.mpr c20
          by_cases c27 : x3_1.size + 1 ≤ 9223372036854775807
          ·rw [if_pos c27] at H
           have c27b0 := eq_true c27
           have c27b1 : decide (x3_1.size + 1 ≤ 9223372036854775807) = true := decide_eq_true c27
           try have c27b2 : (9223372036854775807 < x3_1.size + 1) = False := eq_false (Nat.not_lt.2 c27)
           obtain ⟨js28, hjs28⟩ : ∃ j_ : ByteArray, (x3_1 ++ (⟨#[46]⟩ : ByteArray)) = j_ := ⟨_, rfl⟩
           replace H : (if 0 ≤ x4_1 then (if (js28).size + (rdOf ByteArray.empty l0_3 x4_1).size ≤ 9223372036854775807 then (spec_VersionText.l0 k1 ((js28) ++ (rdOf ByteArray.empty l0_3 x4_1)) (wrap64 (x4_1 + 1)) a0_0 a0_1 a0_2 l0_3) else (none)) else (none)) = some r := by first | (rw [hjs28] at H; exact H) | (simp only [hjs28] at H ⊢; exact H)
           by_cases c29 : 0 ≤ x4_1
           ·rw [if_pos c29] at H
            have c29b0 : decide (0 ≤ x4_1) = true := decide_eq_true c29
            clear c29
            by_cases c30 : (js28).size + (rdOf ByteArray.empty l0_3 x4_1).size ≤ 9223372036854775807
            ·rw [if_pos c30] at H
             have c30b0 := eq_true c30
             have c30b1 : decide ((js28).size + (rdOf ByteArray.empty l0_3 x4_1).size ≤ 9223372036854775807) = true := decide_eq_true c30
             try have c30b2 : (9223372036854775807 < (js28).size + (rdOf ByteArray.empty l0_3 x4_1).size) = False := eq_false (Nat.not_lt.2 c30)
             obtain ⟨js31, hjs31⟩ : ∃ j_ : ByteArray, ((js28) ++ (rdOf ByteArray.empty l0_3 x4_1)) = j_ := ⟨_, rfl⟩
             replace H : (spec_VersionText.l0 k1 js31 (wrap64 (x4_1 + 1)) a0_0 a0_1 a0_2 l0_3) = some r := by first | (rw [hjs31] at H; exact H) | (simp only [hjs31] at H ⊢; exact H)
             have H' := Aside0.mk H
             clear H
             obtain ⟨hcz32_0, hcz32_1, hcz32_2, hcz32_3, hfz32_0, hfz32_1, hfz32_2, hfz32_3⟩ := blk_4 BK130.out
             have p136 : 0 ≤ (x4_1 : Int) := of_decide_eq_true zb2
             have q136 : x4_1 < (l0_3.length : Int) := of_decide_eq_true zb2
             obtain ⟨ad136, e136, hx136_0⟩ := Kd.at_string HR0_3.out x4_1 p136 q136
             cases e136
             replace hx136_0 := (HB.out.cell (World.block_lt_of_cell? w _ hx136_0)).trans hx136_0
             replace p136 := eq_true p136
             replace q136 := eq_true q136
             go_wp2
             repeat (go_quiet (fail); try go_wp2)
             go_roundg k1
             case measure => have := HK1.out; omega
             case rel => exact ⟨(js31), (wrap64 (x4_1 + 1)), (by first | rfl | (simp; done) | (simp only [← hjs31] <;> (first | rfl | simp)) | (simp [*]; done)), zb5, H', ⟨by have := HK1.out; omega⟩, ⟨by (with_reducible repeat (first | refine bN_ ?_ _ | refine bD_ ?_ | refine bA_ ?_ _)); exact BK130.out⟩, ⟨by repeat (first | (with_reducible first | exact HB.out | apply below_alloc | apply pw_below_drewN | apply below_drew1 | refine below_set ?_ GE130.out) | exact HB.out)⟩⟩
            ·rw [if_neg c30] at H
             exact absurd H (by simp)
           ·rw [if_neg c29] at H
            exact absurd H (by simp)
          ·rw [if_neg c27] at H
           exact absurd H (by simp)
        ·rw [if_neg c19] at H
         have c19b0 : decide (x4_1 < (l0_3.length : Int)) = false := decide_eq_false c19
         clear c19
         obtain rfl := Option.some.inj H
         obtain ⟨hcz33_0, hcz33_1, hcz33_2, hcz33_3, hfz33_0, hfz33_1, hfz33_2, hfz33_3⟩ := blk_4 BK130.out
         go_wp2
         repeat (go_quiet (fail); try go_wp2)
         go_ret
         exact ⟨by first | rfl | (simp [errW_none, errW_some] <;> rfl) | (simp only [← hjs6, ← hjs9, ← hjs11, ← hjs14]; first | rfl | (simp [errW_none, errW_some] <;> rfl)) | (simp [*, errW_none, errW_some] <;> rfl), by repeat (first | (with_reducible first | exact HB.out | apply below_alloc | apply pw_below_drewN | apply below_drew1 | refine below_set ?_ GE130.out) | exact HB.out)⟩
     ·rw [if_neg c13] at H
      exact absurd H (by simp)
    ·rw [if_neg c10] at H
     exact absurd H (by simp)
   ·rw [if_neg c8] at H
    exact absurd H (by simp)
  ·rw [if_neg c5] at H
   exact absurd H (by simp)
 ·replace c3 := Bool.eq_false_iff.mpr c3
  subst c3
  have H1 : (some (⟨#[]⟩ : ByteArray)) = some r := by rw [if_neg (show ¬ (false = true) by decide)] at H; exact H
  clear H
  have H := H1
  clear H1
  obtain rfl := Option.some.inj H
  go_enter Tryz.func54, Tryz.ntmps54
  go_wp2_with (first | ((with_reducible refine gate_dst (N := 1) rfl ?_); refine box_event ?hg (N := 1) ?hd (cs := #[.int .i64 a0_0, .int .i64 a0_1, .int .i64 a0_2, .slice A0_3 l0_3.length c0_3]) (t := 50) ?hr ?_; (case hd => rfl); (case hg => rfl); (case hr => first | (go_simp; done) | (go_simp; rfl)); intro gb130 hg w34 hbox hb; have n0_ := Aside0.mk (below_step zb0 hb); have n1_ := Aside0.mk (hbox); have n2_ := Aside0.mk ((by rw [hg]; exact (below_size zb0) : w.heap.size ≤ gb130)); have n3_ := Aside0.mk ((by rw [hg]; exact (below_size zb0) : w.heap.size ≤ gb130)); clear HB; have HB := n0_; have BK130 := n1_; have GW130 := n2_; have GE130 := n3_; clear n0_ n1_ n2_ n3_; clear hb hbox hg; obtain ⟨hcz35_0, hcz35_1, hcz35_2, hcz35_3, hfz35_0, hfz35_1, hfz35_2, hfz35_3⟩ := blk_4 BK130.out) | (go_at_call 82; (with_reducible refine (spec_VersionOk.calls k a0_0 a0_1 a0_2 _ _ l0_3 false _ ?side1 ?side2 A2.out).mono ?_); (case side1 => repeat (first | exact (Kd.C_below HR0_3.out HB.out) | (with_reducible refine Kd.C_alloc ?_ _) | (with_reducible refine Kd.C_drewN ?_ _) | (with_reducible refine Kd.C_drew ?_))); (case side2 => exact HC0_3.out); rintro e w36 ⟨rfl, hb⟩; have n0_ := Aside0.mk (blk_below (g := gb130) (o := .cells #[.int .i64 a0_0, .int .i64 a0_1, .int .i64 a0_2, .slice A0_3 l0_3.length c0_3] 50 (0, 0)) (by (with_reducible repeat (first | refine bN_ ?_ _ | refine bD_ ?_ | refine bA_ ?_ _)); exact BK130.out) hb); have n1_ := Aside0.mk (below_step (by repeat (first | (with_reducible first | exact HB.out | apply below_alloc | apply pw_below_drewN | apply below_drew1 | refine below_set ?_ GE130.out) | exact HB.out)) hb); clear BK130; clear HB; have BK130 := n0_; have HB := n1_; clear n0_ n1_; (try clear hb)))
  repeat (go_quiet (first | ((with_reducible refine gate_dst (N := 1) rfl ?_); refine box_event ?hg (N := 1) ?hd (cs := #[.int .i64 a0_0, .int .i64 a0_1, .int .i64 a0_2, .slice A0_3 l0_3.length c0_3]) (t := 50) ?hr ?_; (case hd => rfl); (case hg => rfl); (case hr => first | (go_simp; done) | (go_simp; rfl)); intro gb130 hg w34 hbox hb; have n0_ := Aside0.mk (below_step zb0 hb); have n1_ := Aside0.mk (hbox); have n2_ := Aside0.mk ((by rw [hg]; exact (below_size zb0) : w.heap.size ≤ gb130)); have n3_ := Aside0.mk ((by rw [hg]; exact (below_size zb0) : w.heap.size ≤ gb130)); clear HB; have HB := n0_; have BK130 := n1_; have GW130 := n2_; have GE130 := n3_; clear n0_ n1_ n2_ n3_; clear hb hbox hg; obtain ⟨hcz35_0, hcz35_1, hcz35_2, hcz35_3, hfz35_0, hfz35_1, hfz35_2, hfz35_3⟩ := blk_4 BK130.out) | (go_at_call 82; (with_reducible refine (spec_VersionOk.calls k a0_0 a0_1 a0_2 _ _ l0_3 false _ ?side1 ?side2 A2.out).mono ?_); (case side1 => repeat (first | exact (Kd.C_below HR0_3.out HB.out) | (with_reducible refine Kd.C_alloc ?_ _) | (with_reducible refine Kd.C_drewN ?_ _) | (with_reducible refine Kd.C_drew ?_))); (case side2 => exact HC0_3.out); rintro e w36 ⟨rfl, hb⟩; have n0_ := Aside0.mk (blk_below (g := gb130) (o := .cells #[.int .i64 a0_0, .int .i64 a0_1, .int .i64 a0_2, .slice A0_3 l0_3.length c0_3] 50 (0, 0)) (by (with_reducible repeat (first | refine bN_ ?_ _ | refine bD_ ?_ | refine bA_ ?_ _)); exact BK130.out) hb); have n1_ := Aside0.mk (below_step (by repeat (first | (with_reducible first | exact HB.out | apply below_alloc | apply pw_below_drewN | apply below_drew1 | refine below_set ?_ GE130.out) | exact HB.out)) hb); clear BK130; clear HB; have BK130 := n0_; have HB := n1_; clear n0_ n1_; (try clear hb))); try go_wp2_with (first | ((with_reducible refine gate_dst (N := 1) rfl ?_); refine box_event ?hg (N := 1) ?hd (cs := #[.int .i64 a0_0, .int .i64 a0_1, .int .i64 a0_2, .slice A0_3 l0_3.length c0_3]) (t := 50) ?hr ?_; (case hd => rfl); (case hg => rfl); (case hr => first | (go_simp; done) | (go_simp; rfl)); intro gb130 hg w34 hbox hb; have n0_ := Aside0.mk (below_step zb0 hb); have n1_ := Aside0.mk (hbox); have n2_ := Aside0.mk ((by rw [hg]; exact (below_size zb0) : w.heap.size ≤ gb130)); have n3_ := Aside0.mk ((by rw [hg]; exact (below_size zb0) : w.heap.size ≤ gb130)); clear HB; have HB := n0_; have BK130 := n1_; have GW130 := n2_; have GE130 := n3_; clear n0_ n1_ n2_ n3_; clear hb hbox hg; obtain ⟨hcz35_0, hcz35_1, hcz35_2, hcz35_3, hfz35_0, hfz35_1, hfz35_2, hfz35_3⟩ := blk_4 BK130.out) | (go_at_call 82; (with_reducible refine (spec_VersionOk.calls k a0_0 a0_1 a0_2 _ _ l0_3 false _ ?side1 ?side2 A2.out).mono ?_); (case side1 => repeat (first | exact (Kd.C_below HR0_3.out HB.out) | (with_reducible refine Kd.C_alloc ?_ _) | (with_reducible refine Kd.C_drewN ?_ _) | (with_reducible refine Kd.C_drew ?_))); (case side2 => exact HC0_3.out); rintro e w36 ⟨rfl, hb⟩; have n0_ := Aside0.mk (blk_below (g := gb130) (o := .cells #[.int .i64 a0_0, .int .i64 a0_1, .int .i64 a0_2, .slice A0_3 l0_3.length c0_3] 50 (0, 0)) (by (with_reducible repeat (first | refine bN_ ?_ _ | refine bD_ ?_ | refine bA_ ?_ _)); exact BK130.out) hb); have n1_ := Aside0.mk (below_step (by repeat (first | (with_reducible first | exact HB.out | apply below_alloc | apply pw_below_drewN | apply below_drew1 | refine below_set ?_ GE130.out) | exact HB.out)) hb); clear BK130; clear HB; have BK130 := n0_; have HB := n1_; clear n0_ n1_; (try clear hb))))
  go_ret
  exact ⟨zb3, by repeat (first | (with_reducible first | exact HB.out | apply below_alloc | apply pw_below_drewN | apply below_drew1 | refine below_set ?_ GE130.out) | exact HB.out)⟩
def spec_l02Less.f (a0 : Int) (a1 : Int) : Option (Int) := if a0 < a1 then (some (-1)) else (if a0 > a1 then (some 1) else (some 0))
set_option maxHeartbeats 8000000 in
set_option maxRecDepth 100000 in
theorem spec_l02Less.calls (a0 : Int) (a1 : Int) (r : Int) (w : World) (h : spec_l02Less.f a0 a1 = some r) :
  Calls Tryz.prog 77 #[.int .i64 a0, .int .i64 a1] w fun e w' => e = .returned (.int .i64 r) ∧ Drawn0 w w' := by
 have H : (if a0 < a1 then (some (-1)) else (if a0 > a1 then (some 1) else (some 0))) = some r := h
 clear h
 by_cases c3 : a0 < a1
 ·rw [if_pos c3] at H
  have c3b0 : decide (a0 < a1) = true := decide_eq_true c3
  clear c3
  obtain rfl := Option.some.inj H
  go_enter Tryz.func77, Tryz.ntmps77
  go_wp2
  go_ret
  exact zs1
 ·rw [if_neg c3] at H
  have c3b0 : decide (a0 < a1) = false := decide_eq_false c3
  clear c3
  by_cases c4 : a0 > a1
  ·rw [if_pos c4] at H
   have c4b0 : decide (a1 < a0) = true := decide_eq_true c4
   clear c4
   obtain rfl := Option.some.inj H
   go_enter Tryz.func77, Tryz.ntmps77
   go_wp2
   go_ret
   exact zs1
  ·rw [if_neg c4] at H
   have c4b0 : decide (a1 < a0) = false := decide_eq_false c4
   clear c4
   obtain rfl := Option.some.inj H
   go_enter Tryz.func77, Tryz.ntmps77
   go_wp2
   go_ret
   exact zs1
def spec_l02Texts.f (a0 : ByteArray) (a1 : ByteArray) : Option (Int) := if (Op.bytesLess a0.toList a1.toList) = true then (some (-1)) else (if (Op.bytesLess a1.toList a0.toList) = true then (some 1) else (some 0))
set_option maxHeartbeats 8000000 in
set_option maxRecDepth 100000 in
theorem spec_l02Texts.calls (a0 : ByteArray) (a1 : ByteArray) (r : Int) (w : World) (h : spec_l02Texts.f a0 a1 = some r) :
  Calls Tryz.prog 96 #[.string a0, .string a1] w fun e w' => e = .returned (.int .i64 r) ∧ Drawn0 w w' := by
 have H : (if (Op.bytesLess a0.toList a1.toList) = true then (some (-1)) else (if (Op.bytesLess a1.toList a0.toList) = true then (some 1) else (some 0))) = some r := h
 clear h
 by_cases c3 : (Op.bytesLess a0.toList a1.toList) = true
 ·rw [if_pos c3] at H
  have c3b0 : (Op.bytesLess a0.toList a1.toList) = true := c3
  clear c3
  obtain rfl := Option.some.inj H
  go_enter Tryz.func96, Tryz.ntmps96
  go_wp2
  go_ret
  exact zs1
 ·rw [if_neg c3] at H
  have c3b0 : (Op.bytesLess a0.toList a1.toList) = false := by simpa using c3
  clear c3
  by_cases c4 : (Op.bytesLess a1.toList a0.toList) = true
  ·rw [if_pos c4] at H
   have c4b0 : (Op.bytesLess a1.toList a0.toList) = true := c4
   clear c4
   obtain rfl := Option.some.inj H
   go_enter Tryz.func96, Tryz.ntmps96
   go_wp2
   go_ret
   exact zs1
  ·rw [if_neg c4] at H
   have c4b0 : (Op.bytesLess a1.toList a0.toList) = false := by simpa using c4
   clear c4
   obtain rfl := Option.some.inj H
   go_enter Tryz.func96, Tryz.ntmps96
   go_wp2
   go_ret
   exact zs1
def spec_l02Part.j0 : Nat → ByteArray → ByteArray → Int → Int → Bool → Option (Int)
 | 0, _, _, _, _, _ => none
 | k + 1, x0, x1, x5, x6, x11 => if x11 = true then ((spec_l02Less.f x5 x6).bind fun t168 => (some t168)) else (if x5 ≥ 0 then (some (-1)) else (if x6 ≥ 0 then (some 1) else ((spec_l02Texts.f x0 x1).bind fun t169 => (some t169))))
def spec_l02Part.f (k : Nat) (a0 : ByteArray) (a1 : ByteArray) : Option (Int) := (spec_ReadDec.f k a0).bind fun t166 => ((spec_ReadDec.f k a1).bind fun t167 => (if t166 ≥ 0 then (spec_l02Part.j0 k a0 a1 t166 t167 (decide (t167 ≥ 0))) else (spec_l02Part.j0 k a0 a1 t166 t167 false)))
set_option maxHeartbeats 8000000 in
set_option maxRecDepth 100000 in
theorem spec_l02Part.calls (k : Nat) (a0 : ByteArray) (a1 : ByteArray) (r : Int) (w : World) (h : spec_l02Part.f k a0 a1 = some r) :
  Calls Tryz.prog 78 #[.string a0, .string a1] w fun e w' => e = .returned (.int .i64 r) ∧ Below w.heap.size w w' := by
 have HB := Aside0.mk (Below.refl w.heap.size w)
 have H : ((spec_ReadDec.f k a0).bind fun t166 => ((spec_ReadDec.f k a1).bind fun t167 => (if t166 ≥ 0 then (spec_l02Part.j0 k a0 a1 t166 t167 (decide (t167 ≥ 0))) else (spec_l02Part.j0 k a0 a1 t166 t167 false)))) = some r := h
 clear h
 replace H := Option.bind_eq_some_iff.mp H
 obtain ⟨t166, A30, H⟩ := H
 replace H : ((spec_ReadDec.f k a1).bind fun t167 => (if t166 ≥ 0 then (spec_l02Part.j0 k a0 a1 t166 t167 (decide (t167 ≥ 0))) else (spec_l02Part.j0 k a0 a1 t166 t167 false))) = some r := H
 have A3 := Aside0.mk A30
 clear A30
 replace H := Option.bind_eq_some_iff.mp H
 obtain ⟨t167, A40, H⟩ := H
 replace H : (if t166 ≥ 0 then (spec_l02Part.j0 k a0 a1 t166 t167 (decide (t167 ≥ 0))) else (spec_l02Part.j0 k a0 a1 t166 t167 false)) = some r := H
 have A4 := Aside0.mk A40
 clear A40
 have HC5 := Aside0.mk H
 clear H
 go_enter Tryz.func78, Tryz.ntmps78
 go_upto_region 2 with (first | ((with_reducible refine gate_callee (f := 53) rfl ?_); refine goesL_ (some 8) rfl rfl Tryz.func53 zb6 rfl #[.string a0] rfl zb1 ?_; (with_reducible refine (spec_ReadDec.calls k a0 t166 _ A3.out).mono ?_); rintro e w6 ⟨rfl, hb⟩; refine ⟨_, rfl, ?_⟩; have n0_ := Aside0.mk (below_step zb0 hb); clear HB; have HB := n0_; clear n0_; (try clear hb)) | ((with_reducible refine gate_callee (f := 53) rfl ?_); refine goesL_ (some 10) rfl rfl Tryz.func53 zb6 rfl #[.string a1] rfl zb1 ?_; (with_reducible refine (spec_ReadDec.calls k a1 t167 _ A4.out).mono ?_); rintro e w7 ⟨rfl, hb⟩; refine ⟨_, rfl, ?_⟩; have n0_ := Aside0.mk (below_step zb0 hb); clear HB; have HB := n0_; clear n0_; (try clear hb)))
 (try simp only [Act.put, List.setIfInBounds_toArray, List.set_cons_zero, List.set_cons_succ])
 go_cut [11] (fun v11 wc => ∃ (kq : Nat) (x11_4 : Bool), v11 = .bool x11_4 ∧ Aside0 (spec_l02Part.j0 kq a0 a1 t166 t167 x11_4 = some r) ∧ Aside0 (kq ≤ k) ∧ Aside0 (Below w.heap.size w wc))
 case first =>
  have H := HC5.out
  clear HC5
  by_cases c8 : t166 ≥ 0
  ·rw [if_pos c8] at H
   have c8b0 : decide (0 ≤ t166) = true := decide_eq_true c8
   clear c8
   (first | rw [c8b0] | (simp only [i64_w, i32_w]; rw [c8b0]) | skip)
   have H' := Aside0.mk H
   clear H
   go_wp2
   go_meet
   case rel => exact ⟨_, (decide (t167 ≥ 0)), zb5, H', ⟨by first | omega | exact Nat.le_refl _⟩, ⟨by repeat (first | (with_reducible first | exact HB.out | apply below_alloc | apply pw_below_drewN | apply below_drew1) | exact HB.out)⟩⟩
  ·rw [if_neg c8] at H
   have c8b0 : decide (0 ≤ t166) = false := decide_eq_false c8
   clear c8
   (first | rw [c8b0] | (simp only [i64_w, i32_w]; rw [c8b0]) | skip)
   have H' := Aside0.mk H
   clear H
   go_wp2
   go_meet
   case rel => exact ⟨_, (false), zb5, H', ⟨by first | omega | exact Nat.le_refl _⟩, ⟨by repeat (first | (with_reducible first | exact HB.out | apply below_alloc | apply pw_below_drewN | apply below_drew1) | exact HB.out)⟩⟩
 case rest =>
  clear HC5
  try clear p2
  try clear c5
  try clear c7
  try clear c8
  try clear c8b0
  obtain ⟨kq, x11_4, rfl, HA, HJ4, HB⟩ := hcut
  cases kq with
  | zero => exact absurd HA.out (by simp [spec_l02Part.j0])
  | succ kj4 =>
   have H := HA.out
   clear HA
   simp only [spec_l02Part.j0] at H
   by_cases c9 : x11_4 = true
   ·subst c9
    have H1 : ((spec_l02Less.f t166 t167).bind fun t168 => (some t168)) = some r := by rw [if_pos rfl] at H; exact H
    clear H
    have H := H1
    clear H1
    replace H := Option.bind_eq_some_iff.mp H
    obtain ⟨t168, A100, H⟩ := H
    replace H : (some t168) = some r := H
    have A10 := Aside0.mk A100
    clear A100
    obtain rfl := Option.some.inj H
    go_wp2_with (first | ((with_reducible refine gate_callee (f := 77) rfl ?_); refine goesL_ (some 20) rfl rfl Tryz.func77 zb6 rfl #[.int .i64 t166, .int .i64 t167] rfl zb1 ?_; (with_reducible refine (spec_l02Less.calls t166 t167 t168 _ A10.out).mono ?_); rintro e w' ⟨rfl, ⟨nd, rfl⟩⟩; refine ⟨_, rfl, ?_⟩))
    go_ret
    exact zs3
   ·replace c9 := Bool.eq_false_iff.mpr c9
    subst c9
    have H1 : (if t166 ≥ 0 then (some (-1)) else (if t167 ≥ 0 then (some 1) else ((spec_l02Texts.f a0 a1).bind fun t169 => (some t169)))) = some r := by rw [if_neg (show ¬ (false = true) by decide)] at H; exact H
    clear H
    have H := H1
    clear H1
    by_cases c11 : t166 ≥ 0
    ·rw [if_pos c11] at H
     have c11b0 : decide (0 ≤ t166) = true := decide_eq_true c11
     clear c11
     obtain rfl := Option.some.inj H
     go_wp2
     go_ret
     exact zs3
    ·rw [if_neg c11] at H
     have c11b0 : decide (0 ≤ t166) = false := decide_eq_false c11
     clear c11
     by_cases c12 : t167 ≥ 0
     ·rw [if_pos c12] at H
      have c12b0 : decide (0 ≤ t167) = true := decide_eq_true c12
      clear c12
      obtain rfl := Option.some.inj H
      go_wp2
      go_ret
      exact zs3
     ·rw [if_neg c12] at H
      have c12b0 : decide (0 ≤ t167) = false := decide_eq_false c12
      clear c12
      replace H := Option.bind_eq_some_iff.mp H
      obtain ⟨t169, A130, H⟩ := H
      replace H : (some t169) = some r := H
      have A13 := Aside0.mk A130
      clear A130
      obtain rfl := Option.some.inj H
      go_wp2_with (first | ((with_reducible refine gate_callee (f := 96) rfl ?_); refine goesL_ (some 29) rfl rfl Tryz.func96 zb6 rfl #[.string a0, .string a1] rfl zb1 ?_; (with_reducible refine (spec_l02Texts.calls a0 a1 t169 _ A13.out).mono ?_); rintro e w' ⟨rfl, ⟨nd, rfl⟩⟩; refine ⟨_, rfl, ?_⟩))
      go_ret
      exact zs3
def spec_PlainOk.l0 : Nat → ByteArray → Int → Option (Bool)
 | 0, _, _ => none
 | k + 1, x0, x3 => if x3 < (x0.size : Int) then (if 0 ≤ x3 then ((spec_l01In.f (wrap64 (bt x0 x3)) 33 126).bind fun t545 => (if t545 = true then (if (bt x0 x3) = 34 then (some false) else (if (bt x0 x3) = 39 then (some false) else (if (bt x0 x3) = 44 then (some false) else (if (bt x0 x3) = 92 then (some false) else (spec_PlainOk.l0 k x0 (wrap64 (x3 + 1))))))) else (some false))) else (none)) else (if (x0.size : Int) ≤ 100 then (some (decide ((x0.size : Int) < 20000))) else (some false))
def spec_PlainOk.f (k : Nat) (a0 : ByteArray) : Option (Bool) := spec_PlainOk.l0 k a0 0
set_option maxHeartbeats 8000000 in
set_option maxRecDepth 100000 in
theorem spec_PlainOk.calls (k : Nat) (a0 : ByteArray) (r : Bool) (w : World) (h : spec_PlainOk.f k a0 = some r) :
  Calls Tryz.prog 39 #[.string a0] w fun e w' => e = .returned (.bool r) ∧ Drawn0 w w' := by
 have H : (spec_PlainOk.l0 k a0 0) = some r := h
 clear h
 have H' := Aside0.mk H
 clear H
 go_enter Tryz.func39, Tryz.ntmps39
 go_wp2
 go_loopg [3] k (fun kq v3 w' => ∃ (x3_1 : Int), v3 = .int .i64 x3_1 ∧ Aside0 (spec_PlainOk.l0 kq a0 x3_1 = some r) ∧ Aside0 (kq ≤ k) ∧ Drawn0 w w')
 case atStart => exact ⟨(0), zb5, H', ⟨Nat.le_refl _⟩, by repeat (first | exact Drawn0.refl _ | apply Drawn0.step)⟩
 case round =>
  clear H'
  obtain ⟨x3_1, rfl, HA, HK1, ⟨m1, rfl⟩⟩ := hrel
  cases gk with
  | zero => exact absurd HA.out (by simp [spec_PlainOk.l0])
  | succ k1 =>
   have H := HA.out
   clear HA
   simp only [spec_PlainOk.l0] at H
   by_cases c2 : x3_1 < (a0.size : Int)
   ·rw [if_pos c2] at H
    have c2b0 : decide (x3_1 < (a0.size : Int)) = true := decide_eq_true c2
    clear c2
    by_cases c3 : 0 ≤ x3_1
    ·rw [if_pos c3] at H
     have c3b0 : decide (0 ≤ x3_1) = true := decide_eq_true c3
     clear c3
     replace H := Option.bind_eq_some_iff.mp H
     obtain ⟨t545, A50, H⟩ := H
     replace H : (if t545 = true then (if (bt a0 x3_1) = 34 then (some false) else (if (bt a0 x3_1) = 39 then (some false) else (if (bt a0 x3_1) = 44 then (some false) else (if (bt a0 x3_1) = 92 then (some false) else (spec_PlainOk.l0 k1 a0 (wrap64 (x3_1 + 1))))))) else (some false)) = some r := H
     have A5 := Aside0.mk A50
     clear A50
     by_cases c6 : t545 = true
     ·subst c6
      have H1 : (if (bt a0 x3_1) = 34 then (some false) else (if (bt a0 x3_1) = 39 then (some false) else (if (bt a0 x3_1) = 44 then (some false) else (if (bt a0 x3_1) = 92 then (some false) else (spec_PlainOk.l0 k1 a0 (wrap64 (x3_1 + 1))))))) = some r := by rw [if_pos rfl] at H; exact H
      clear H
      have H := H1
      clear H1
      by_cases c8 : (bt a0 x3_1) = 34
      ·rw [if_pos c8] at H
       have c8b0 : ((bt a0 x3_1) == 34) = true := beq_iff_eq.mpr c8
       have c8b1 : ((bt a0 x3_1) != 34) = false := bne_eq_false_iff_eq.mpr c8
       clear c8
       obtain rfl := Option.some.inj H
       have p4 : 0 ≤ (x3_1 : Int) := of_decide_eq_true zb2
       have q4 : x3_1 < (a0.size : Int) := of_decide_eq_true zb2
       have hx4 := bt_at a0 x3_1
       replace p4 := eq_true p4
       replace q4 := eq_true q4
       go_wp2_with (first | ((with_reducible refine gate_callee (f := 56) rfl ?_); refine goesL_ (some 14) rfl rfl Tryz.func56 zb6 rfl #[.int .i64 (wrap64 (bt a0 x3_1)), .int .i64 33, .int .i64 126] rfl zb1 ?_; (with_reducible refine (spec_l01In.calls (wrap64 (bt a0 x3_1)) 33 126 true _ A5.out).mono ?_); rintro e w' ⟨rfl, ⟨nd, rfl⟩⟩; refine ⟨_, rfl, ?_⟩; have p7 : 0 ≤ (x3_1 : Int) := of_decide_eq_true zb2; have q7 : x3_1 < (a0.size : Int) := of_decide_eq_true zb2; have hx7 := bt_at a0 x3_1; replace p7 := eq_true p7; replace q7 := eq_true q7))
       go_ret
       exact zs1
      ·rw [if_neg c8] at H
       have c8b0 : ((bt a0 x3_1) == 34) = false := beq_eq_false_iff_ne.mpr c8
       have c8b1 : ((bt a0 x3_1) != 34) = true := bne_iff_ne.mpr c8
       by_cases c10 : (bt a0 x3_1) = 39
       ·rw [if_pos c10] at H
        have c10b0 : ((bt a0 x3_1) == 39) = true := beq_iff_eq.mpr c10
        have c10b1 : ((bt a0 x3_1) != 39) = false := bne_eq_false_iff_eq.mpr c10
        clear c10
        obtain rfl := Option.some.inj H
        have p4 : 0 ≤ (x3_1 : Int) := of_decide_eq_true zb2
        have q4 : x3_1 < (a0.size : Int) := of_decide_eq_true zb2
        have hx4 := bt_at a0 x3_1
        replace p4 := eq_true p4
        replace q4 := eq_true q4
        go_wp2_with (first | ((with_reducible refine gate_callee (f := 56) rfl ?_); refine goesL_ (some 14) rfl rfl Tryz.func56 zb6 rfl #[.int .i64 (wrap64 (bt a0 x3_1)), .int .i64 33, .int .i64 126] rfl zb1 ?_; (with_reducible refine (spec_l01In.calls (wrap64 (bt a0 x3_1)) 33 126 true _ A5.out).mono ?_); rintro e w' ⟨rfl, ⟨nd, rfl⟩⟩; refine ⟨_, rfl, ?_⟩; have p7 : 0 ≤ (x3_1 : Int) := of_decide_eq_true zb2; have q7 : x3_1 < (a0.size : Int) := of_decide_eq_true zb2; have hx7 := bt_at a0 x3_1; replace p7 := eq_true p7; replace q7 := eq_true q7; have p9 : 0 ≤ (x3_1 : Int) := of_decide_eq_true zb2; have q9 : x3_1 < (a0.size : Int) := of_decide_eq_true zb2; have hx9 := bt_at a0 x3_1; replace p9 := eq_true p9; replace q9 := eq_true q9))
        go_ret
        exact zs1
       ·rw [if_neg c10] at H
        have c10b0 : ((bt a0 x3_1) == 39) = false := beq_eq_false_iff_ne.mpr c10
        have c10b1 : ((bt a0 x3_1) != 39) = true := bne_iff_ne.mpr c10
        by_cases c12 : (bt a0 x3_1) = 44
        ·rw [if_pos c12] at H
         have c12b0 : ((bt a0 x3_1) == 44) = true := beq_iff_eq.mpr c12
         have c12b1 : ((bt a0 x3_1) != 44) = false := bne_eq_false_iff_eq.mpr c12
         clear c12
         obtain rfl := Option.some.inj H
         have p4 : 0 ≤ (x3_1 : Int) := of_decide_eq_true zb2
         have q4 : x3_1 < (a0.size : Int) := of_decide_eq_true zb2
         have hx4 := bt_at a0 x3_1
         replace p4 := eq_true p4
         replace q4 := eq_true q4
         go_wp2_with (first | ((with_reducible refine gate_callee (f := 56) rfl ?_); refine goesL_ (some 14) rfl rfl Tryz.func56 zb6 rfl #[.int .i64 (wrap64 (bt a0 x3_1)), .int .i64 33, .int .i64 126] rfl zb1 ?_; (with_reducible refine (spec_l01In.calls (wrap64 (bt a0 x3_1)) 33 126 true _ A5.out).mono ?_); rintro e w' ⟨rfl, ⟨nd, rfl⟩⟩; refine ⟨_, rfl, ?_⟩; have p7 : 0 ≤ (x3_1 : Int) := of_decide_eq_true zb2; have q7 : x3_1 < (a0.size : Int) := of_decide_eq_true zb2; have hx7 := bt_at a0 x3_1; replace p7 := eq_true p7; replace q7 := eq_true q7; have p9 : 0 ≤ (x3_1 : Int) := of_decide_eq_true zb2; have q9 : x3_1 < (a0.size : Int) := of_decide_eq_true zb2; have hx9 := bt_at a0 x3_1; replace p9 := eq_true p9; replace q9 := eq_true q9; have p11 : 0 ≤ (x3_1 : Int) := of_decide_eq_true zb2; have q11 : x3_1 < (a0.size : Int) := of_decide_eq_true zb2; have hx11 := bt_at a0 x3_1; replace p11 := eq_true p11; replace q11 := eq_true q11))
         go_ret
         exact zs1
        ·rw [if_neg c12] at H
         have c12b0 : ((bt a0 x3_1) == 44) = false := beq_eq_false_iff_ne.mpr c12
         have c12b1 : ((bt a0 x3_1) != 44) = true := bne_iff_ne.mpr c12
         by_cases c14 : (bt a0 x3_1) = 92
         ·rw [if_pos c14] at H
          have c14b0 : ((bt a0 x3_1) == 92) = true := beq_iff_eq.mpr c14
          have c14b1 : ((bt a0 x3_1) != 92) = false := bne_eq_false_iff_eq.mpr c14
          clear c14
          obtain rfl := Option.some.inj H
          have p4 : 0 ≤ (x3_1 : Int) := of_decide_eq_true zb2
          have q4 : x3_1 < (a0.size : Int) := of_decide_eq_true zb2
          have hx4 := bt_at a0 x3_1
          replace p4 := eq_true p4
          replace q4 := eq_true q4
          go_wp2_with (first | ((with_reducible refine gate_callee (f := 56) rfl ?_); refine goesL_ (some 14) rfl rfl Tryz.func56 zb6 rfl #[.int .i64 (wrap64 (bt a0 x3_1)), .int .i64 33, .int .i64 126] rfl zb1 ?_; (with_reducible refine (spec_l01In.calls (wrap64 (bt a0 x3_1)) 33 126 true _ A5.out).mono ?_); rintro e w' ⟨rfl, ⟨nd, rfl⟩⟩; refine ⟨_, rfl, ?_⟩; have p7 : 0 ≤ (x3_1 : Int) := of_decide_eq_true zb2; have q7 : x3_1 < (a0.size : Int) := of_decide_eq_true zb2; have hx7 := bt_at a0 x3_1; replace p7 := eq_true p7; replace q7 := eq_true q7; have p9 : 0 ≤ (x3_1 : Int) := of_decide_eq_true zb2; have q9 : x3_1 < (a0.size : Int) := of_decide_eq_true zb2; have hx9 := bt_at a0 x3_1; replace p9 := eq_true p9; replace q9 := eq_true q9; have p11 : 0 ≤ (x3_1 : Int) := of_decide_eq_true zb2; have q11 : x3_1 < (a0.size : Int) := of_decide_eq_true zb2; have hx11 := bt_at a0 x3_1; replace p11 := eq_true p11; replace q11 := eq_true q11; have p13 : 0 ≤ (x3_1 : Int) := of_decide_eq_true zb2; have q13 : x3_1 < (a0.size : Int) := of_decide_eq_true zb2; have hx13 := bt_at a0 x3_1; replace p13 := eq_true p13; replace q13 := eq_true q13))
          go_ret
          exact zs1
         ·rw [if_neg c14] at H
          have c14b0 : ((bt a0 x3_1) == 92) = false := beq_eq_false_iff_ne.mpr c14
          have c14b1 : ((bt a0 x3_1) != 92) = true := bne_iff_ne.mpr c14
          have H' := Aside0.mk H
          clear H
          have p4 : 0 ≤ (x3_1 : Int) := of_decide_eq_true zb2
          have q4 : x3_1 < (a0.size : Int) := of_decide_eq_true zb2
          have hx4 := bt_at a0 x3_1
          replace p4 := eq_true p4
          replace q4 := eq_true q4
          go_wp2_with (first | ((with_reducible refine gate_callee (f := 56) rfl ?_); refine goesL_ (some 14) rfl rfl Tryz.func56 zb6 rfl #[.int .i64 (wrap64 (bt a0 x3_1)), .int .i64 33, .int .i64 126] rfl zb1 ?_; (with_reducible refine (spec_l01In.calls (wrap64 (bt a0 x3_1)) 33 126 true _ A5.out).mono ?_); rintro e w' ⟨rfl, ⟨nd, rfl⟩⟩; refine ⟨_, rfl, ?_⟩; have p7 : 0 ≤ (x3_1 : Int) := of_decide_eq_true zb2; have q7 : x3_1 < (a0.size : Int) := of_decide_eq_true zb2; have hx7 := bt_at a0 x3_1; replace p7 := eq_true p7; replace q7 := eq_true q7; have p9 : 0 ≤ (x3_1 : Int) := of_decide_eq_true zb2; have q9 : x3_1 < (a0.size : Int) := of_decide_eq_true zb2; have hx9 := bt_at a0 x3_1; replace p9 := eq_true p9; replace q9 := eq_true q9; have p11 : 0 ≤ (x3_1 : Int) := of_decide_eq_true zb2; have q11 : x3_1 < (a0.size : Int) := of_decide_eq_true zb2; have hx11 := bt_at a0 x3_1; replace p11 := eq_true p11; replace q11 := eq_true q11; have p13 : 0 ≤ (x3_1 : Int) := of_decide_eq_true zb2; have q13 : x3_1 < (a0.size : Int) := of_decide_eq_true zb2; have hx13 := bt_at a0 x3_1; replace p13 := eq_true p13; replace q13 := eq_true q13))
          go_roundg k1
          case measure => have := HK1.out; omega
          case rel => exact ⟨(wrap64 (x3_1 + 1)), zb5, H', ⟨by have := HK1.out; omega⟩, by repeat (first | exact Drawn0.refl _ | apply Drawn0.step)⟩
     ·replace c6 := Bool.eq_false_iff.mpr c6
      subst c6
      have H1 : (some false) = some r := by rw [if_neg (show ¬ (false = true) by decide)] at H; exact H
      clear H
      have H := H1
      clear H1
      obtain rfl := Option.some.inj H
      have p4 : 0 ≤ (x3_1 : Int) := of_decide_eq_true zb2
      have q4 : x3_1 < (a0.size : Int) := of_decide_eq_true zb2
      have hx4 := bt_at a0 x3_1
      replace p4 := eq_true p4
      replace q4 := eq_true q4
      go_wp2_with (first | ((with_reducible refine gate_callee (f := 56) rfl ?_); refine goesL_ (some 14) rfl rfl Tryz.func56 zb6 rfl #[.int .i64 (wrap64 (bt a0 x3_1)), .int .i64 33, .int .i64 126] rfl zb1 ?_; (with_reducible refine (spec_l01In.calls (wrap64 (bt a0 x3_1)) 33 126 false _ A5.out).mono ?_); rintro e w' ⟨rfl, ⟨nd, rfl⟩⟩; refine ⟨_, rfl, ?_⟩))
      go_ret
      exact zs1
    ·rw [if_neg c3] at H
     exact absurd H (by simp)
   ·rw [if_neg c2] at H
    have c2b0 : decide (x3_1 < (a0.size : Int)) = false := decide_eq_false c2
    clear c2
    by_cases c15 : (a0.size : Int) ≤ 100
    ·rw [if_pos c15] at H
     have c15b0 : decide ((a0.size : Int) ≤ 100) = true := decide_eq_true c15
     have c15b1 : decide (a0.size ≤ 100) = true := decide_eq_true (by omega)
     clear c15
     obtain rfl := Option.some.inj H
     go_wp2
     go_ret
     exact zs1
    ·rw [if_neg c15] at H
     have c15b0 : decide ((a0.size : Int) ≤ 100) = false := decide_eq_false c15
     have c15b1 : decide (a0.size ≤ 100) = false := decide_eq_false (by omega)
     clear c15
     obtain rfl := Option.some.inj H
     go_wp2
     go_ret
     exact zs1
def strings_Split.f (a0 : ByteArray) (a1 : ByteArray) : Option (List ByteArray) := if a0.size < 4294967281 ∧ 1 ≤ a1.size then some (Lib.splitB a1 0 (Lib.countB a0 a1) a0) else none
theorem strings_Split.calls (a0 : ByteArray) (a1 : ByteArray) (r : List ByteArray) (w : World) (hGM : Glob FactM w) (h : strings_Split.f a0 a1 = some r) :
  Calls Tryz.prog 58 #[.string a0, .string a1] w fun e w' => ∃ v0_ : Value, e = .returned (v0_) ∧ Kd.R Kd.string 9 w' w.heap.size (fun _ => True) v0_ r ∧ Below w.heap.size w w' := by
 unfold strings_Split.f at h
 by_cases hc : a0.size < 4294967281 ∧ 1 ≤ a1.size
 ·rw [if_pos hc] at h
  obtain rfl := Option.some.inj h
  obtain ⟨m, hm⟩ := FactM.here hGM
  have hl : (Lib.splitB a1 0 (Lib.countB a0 a1) a0).length = Lib.countB a0 a1 + 1 := Lib.splitB_all a1 hc.2 0 _ a0 rfl
  have hn : Lib.countB a0 a1 ≤ a0.size := Lib.countB_le a1 hc.2 a0.size a0 (Nat.le_refl _)
  refine (Tryz.strings_Split a0 a1 m w hc.1 hm hc.2).mono fun e w' ⟨h1, h2⟩ => ⟨_, h1, ?_, ?_⟩
  ·rw [h2]
   refine Kd.R_of_own ?_ (fun _ _ => trivial)
   rw [hl]
   refine ⟨by rw [encs, List.length_map, hl]; omega, Or.inr ⟨w.heap.size, _, _, rfl, Nat.le_refl _, heap_alloc_new w _, Nat.le_refl _, by unfold maxLen; omega, by rw [List.size_toArray, List.length_map, hl]; omega, ?_⟩⟩
   rw [List.take_of_length_le (by rw [List.length_map, hl]; omega)]
   rfl
  ·rw [h2]; exact (Below.refl _ w).alloc (Nat.le_refl _) _
 ·rw [if_neg hc] at h; cases h
def strings_HasPrefix.f (a0 : ByteArray) (a1 : ByteArray) : Option Bool := some (Lib.hasPrefix a0.data.toList a1.data.toList)
theorem strings_HasPrefix.calls (a0 : ByteArray) (a1 : ByteArray) (r : Bool) (w : World) (h : strings_HasPrefix.f a0 a1 = some r) :
  Calls Tryz.prog 67 #[.string a0, .string a1] w fun e w' => e = .returned (.bool r) ∧ Drawn0 w w' := by
 obtain rfl := Option.some.inj h
 exact (Tryz.strings_HasPrefix a0 a1 w).mono fun e w' ⟨h1, h2⟩ => ⟨h1, h2 ▸ Drawn0.refl _⟩
def strings_TrimPrefix.f (a0 : ByteArray) (a1 : ByteArray) : Option ByteArray := some ⟨(Lib.trimPrefix a0.data.toList a1.data.toList).toArray⟩
theorem strings_TrimPrefix.calls (a0 : ByteArray) (a1 : ByteArray) (r : ByteArray) (w : World) (h : strings_TrimPrefix.f a0 a1 = some r) :
  Calls Tryz.prog 68 #[.string a0, .string a1] w fun e w' => e = .returned (.string r) ∧ Drawn0 w w' := by
 obtain rfl := Option.some.inj h
 exact (Tryz.strings_TrimPrefix a0 a1 w).mono fun e w' ⟨h1, h2⟩ => ⟨h1, h2 ▸ Drawn0.refl _⟩
def impl_isDigit.f (a0 : Int) : Option (Bool) := if a0 ≥ 48 then (some (decide (a0 ≤ 57))) else (some false)
set_option maxHeartbeats 8000000 in
set_option maxRecDepth 100000 in
theorem impl_isDigit.calls (a0 : Int) (r : Bool) (w : World) (h : impl_isDigit.f a0 = some r) :
  Calls Tryz.prog 72 #[.int .u8 a0] w fun e w' => e = .returned (.bool r) ∧ Drawn0 w w' := by
 have H : (if a0 ≥ 48 then (some (decide (a0 ≤ 57))) else (some false)) = some r := h
 clear h
 by_cases c2 : a0 ≥ 48
 ·rw [if_pos c2] at H
  have c2b0 : decide (48 ≤ a0) = true := decide_eq_true c2
  clear c2
  obtain rfl := Option.some.inj H
  go_enter Tryz.func72, Tryz.ntmps72
  go_wp2
  go_ret
  exact zs1
 ·rw [if_neg c2] at H
  have c2b0 : decide (48 ≤ a0) = false := decide_eq_false c2
  clear c2
  obtain rfl := Option.some.inj H
  go_enter Tryz.func72, Tryz.ntmps72
  go_wp2
  go_ret
  exact zs1
def impl_isLower.f (a0 : Int) : Option (Bool) := if a0 ≥ 97 then (some (decide (a0 ≤ 122))) else (some false)
set_option maxHeartbeats 8000000 in
set_option maxRecDepth 100000 in
theorem impl_isLower.calls (a0 : Int) (r : Bool) (w : World) (h : impl_isLower.f a0 = some r) :
  Calls Tryz.prog 71 #[.int .u8 a0] w fun e w' => e = .returned (.bool r) ∧ Drawn0 w w' := by
 have H : (if a0 ≥ 97 then (some (decide (a0 ≤ 122))) else (some false)) = some r := h
 clear h
 by_cases c2 : a0 ≥ 97
 ·rw [if_pos c2] at H
  have c2b0 : decide (97 ≤ a0) = true := decide_eq_true c2
  clear c2
  obtain rfl := Option.some.inj H
  go_enter Tryz.func71, Tryz.ntmps71
  go_wp2
  go_ret
  exact zs1
 ·rw [if_neg c2] at H
  have c2b0 : decide (97 ≤ a0) = false := decide_eq_false c2
  clear c2
  obtain rfl := Option.some.inj H
  go_enter Tryz.func71, Tryz.ntmps71
  go_wp2
  go_ret
  exact zs1
def impl_NameOk_1.f (a0 : Int) : Option (Bool) := (impl_isLower.f a0).bind fun t576 => (if t576 = true then (some true) else ((impl_isDigit.f a0).bind fun t577 => (if t577 = true then (some true) else (if a0 = 46 then (some true) else (if a0 = 95 then (some true) else (some (a0 == 45)))))))
set_option maxRecDepth 100000 in
theorem impl_NameOk_1.zl1 {P : Prop} (h : P := by
 go_enter Tryz.func70, Tryz.ntmps70
 go_wp2_with (first | ((with_reducible refine gate_callee (f := 71) rfl ?_); refine goesL_ (some 4) rfl rfl Tryz.func71 zb6 rfl #[.int .u8 a0] rfl zb1 ?_; (with_reducible refine (impl_isLower.calls a0 false _ A2.out).mono ?_); rintro e w' ⟨rfl, ⟨nd, rfl⟩⟩; refine ⟨_, rfl, ?_⟩) | (go_at_call 72; (with_reducible refine (impl_isDigit.calls a0 false _ A4.out).mono ?_); rintro e w' ⟨rfl, ⟨nd, rfl⟩⟩) | (go_at_call 72; (with_reducible refine (impl_isDigit.calls a0 true _ A4.out).mono ?_); rintro e w' ⟨rfl, ⟨nd, rfl⟩⟩))
 go_ret
 exact ⟨by first | rfl | (simp; done) | (simp [*]; done) | (simp; exact isEmpty_ne _), by repeat (first | exact Drawn0.refl _ | apply Drawn0.step)⟩) : P := h
set_option maxHeartbeats 8000000 in
set_option maxRecDepth 100000 in
theorem impl_NameOk_1.calls (a0 : Int) (r : Bool) (w : World) (h : impl_NameOk_1.f a0 = some r) :
  Calls Tryz.prog 70 #[.int .u8 a0] w fun e w' => e = .returned (.bool r) ∧ Drawn0 w w' := by
 have H : ((impl_isLower.f a0).bind fun t576 => (if t576 = true then (some true) else ((impl_isDigit.f a0).bind fun t577 => (if t577 = true then (some true) else (if a0 = 46 then (some true) else (if a0 = 95 then (some true) else (some (a0 == 45)))))))) = some r := h
 clear h
 replace H := Option.bind_eq_some_iff.mp H
 obtain ⟨t576, A20, H⟩ := H
 replace H : (if t576 = true then (some true) else ((impl_isDigit.f a0).bind fun t577 => (if t577 = true then (some true) else (if a0 = 46 then (some true) else (if a0 = 95 then (some true) else (some (a0 == 45))))))) = some r := H
 have A2 := Aside0.mk A20
 clear A20
 by_cases c3 : t576 = true
 ·subst c3
  have H1 : (some true) = some r := by rw [if_pos rfl] at H; exact H
  clear H
  have H := H1
  clear H1
  obtain rfl := Option.some.inj H
  go_enter Tryz.func70, Tryz.ntmps70
  go_wp2_with (first | ((with_reducible refine gate_callee (f := 71) rfl ?_); refine goesL_ (some 4) rfl rfl Tryz.func71 zb6 rfl #[.int .u8 a0] rfl zb1 ?_; (with_reducible refine (impl_isLower.calls a0 true _ A2.out).mono ?_); rintro e w' ⟨rfl, ⟨nd, rfl⟩⟩; refine ⟨_, rfl, ?_⟩))
  go_ret
  exact zs1
 ·replace c3 := Bool.eq_false_iff.mpr c3
  subst c3
  have H1 : ((impl_isDigit.f a0).bind fun t577 => (if t577 = true then (some true) else (if a0 = 46 then (some true) else (if a0 = 95 then (some true) else (some (a0 == 45)))))) = some r := by rw [if_neg (show ¬ (false = true) by decide)] at H; exact H
  clear H
  have H := H1
  clear H1
  replace H := Option.bind_eq_some_iff.mp H
  obtain ⟨t577, A40, H⟩ := H
  replace H : (if t577 = true then (some true) else (if a0 = 46 then (some true) else (if a0 = 95 then (some true) else (some (a0 == 45))))) = some r := H
  have A4 := Aside0.mk A40
  clear A40
  by_cases c5 : t577 = true
  ·subst c5
   have H1 : (some true) = some r := by rw [if_pos rfl] at H; exact H
   clear H
   have H := H1
   clear H1
   obtain rfl := Option.some.inj H
   exact impl_NameOk_1.zl1
  ·replace c5 := Bool.eq_false_iff.mpr c5
   subst c5
   have H1 : (if a0 = 46 then (some true) else (if a0 = 95 then (some true) else (some (a0 == 45)))) = some r := by rw [if_neg (show ¬ (false = true) by decide)] at H; exact H
   clear H
   have H := H1
   clear H1
   by_cases c6 : a0 = 46
   ·rw [if_pos c6] at H
    have c6b0 : (a0 == 46) = true := beq_iff_eq.mpr c6
    have c6b1 : (a0 != 46) = false := bne_eq_false_iff_eq.mpr c6
    clear c6
    obtain rfl := Option.some.inj H
    exact impl_NameOk_1.zl1
   ·rw [if_neg c6] at H
    have c6b0 : (a0 == 46) = false := beq_eq_false_iff_ne.mpr c6
    have c6b1 : (a0 != 46) = true := bne_iff_ne.mpr c6
    by_cases c7 : a0 = 95
    ·rw [if_pos c7] at H
     have c7b0 : (a0 == 95) = true := beq_iff_eq.mpr c7
     have c7b1 : (a0 != 95) = false := bne_eq_false_iff_eq.mpr c7
     clear c7
     obtain rfl := Option.some.inj H
     exact impl_NameOk_1.zl1
    ·rw [if_neg c7] at H
     have c7b0 : (a0 == 95) = false := beq_eq_false_iff_ne.mpr c7
     have c7b1 : (a0 != 95) = true := bne_iff_ne.mpr c7
     obtain rfl := Option.some.inj H
     exact impl_NameOk_1.zl1
def impl_all__impl_NameOk_1.l0 : Nat → ByteArray → Int → Int → Option (Bool)
 | 0, _, _, _ => none
 | k + 1, x0, x7, x8 => if x8 < x7 then (if 0 ≤ x8 then (if x8 < (x0.size : Int) then ((impl_NameOk_1.f (bt x0 x8)).bind fun t578 => (if t578 = true then (impl_all__impl_NameOk_1.l0 k x0 x7 (wrap64 (x8 + 1))) else (some false))) else (none)) else (none)) else (some true)
def impl_all__impl_NameOk_1.f (k : Nat) (a0 : ByteArray)  : Option (Bool) := impl_all__impl_NameOk_1.l0 k a0 (a0.size : Int) 0
set_option maxHeartbeats 8000000 in
set_option maxRecDepth 100000 in
theorem impl_all__impl_NameOk_1.calls (k : Nat) (a0 : ByteArray)  (r : Bool) (w : World) (h : impl_all__impl_NameOk_1.f k a0 = some r) :
  Calls Tryz.prog 69 #[.string a0, (.func (.func 70) #[] #[])] w fun e w' => e = .returned (.bool r) ∧ Drawn0 w w' := by
 have H : (impl_all__impl_NameOk_1.l0 k a0 (a0.size : Int) 0) = some r := h
 clear h
 have H' := Aside0.mk H
 clear H
 go_enter Tryz.func69, Tryz.ntmps69
 go_wp2
 go_loopg [8] k (fun kq v8 w' => ∃ (x8_1 : Int), v8 = .int .i64 x8_1 ∧ Aside0 (impl_all__impl_NameOk_1.l0 kq a0 (a0.size : Int) x8_1 = some r) ∧ Aside0 (kq ≤ k) ∧ Drawn0 w w')
 case atStart => exact ⟨(0), zb5, H', ⟨Nat.le_refl _⟩, by repeat (first | exact Drawn0.refl _ | apply Drawn0.step)⟩
 case round =>
  clear H'
  try clear p2
  obtain ⟨x8_1, rfl, HA, HK1, ⟨m1, rfl⟩⟩ := hrel
  cases gk with
  | zero => exact absurd HA.out (by simp [impl_all__impl_NameOk_1.l0])
  | succ k1 =>
   have H := HA.out
   clear HA
   simp only [impl_all__impl_NameOk_1.l0] at H
   by_cases c3 : x8_1 < (a0.size : Int)
   ·rw [if_pos c3] at H
    have c3b0 : decide (x8_1 < (a0.size : Int)) = true := decide_eq_true c3
    clear c3
    by_cases c4 : 0 ≤ x8_1
    ·rw [if_pos c4] at H
     have c4b0 : decide (0 ≤ x8_1) = true := decide_eq_true c4
     clear c4
     by_cases c5 : x8_1 < (a0.size : Int)
     ·rw [if_pos c5] at H
      have c5b0 : decide (x8_1 < (a0.size : Int)) = true := decide_eq_true c5
      clear c5
      replace H := Option.bind_eq_some_iff.mp H
      obtain ⟨t578, A70, H⟩ := H
      replace H : (if t578 = true then (impl_all__impl_NameOk_1.l0 k1 a0 (a0.size : Int) (wrap64 (x8_1 + 1))) else (some false)) = some r := H
      have A7 := Aside0.mk A70
      clear A70
      by_cases c8 : t578 = true
      ·subst c8
       have H1 : (impl_all__impl_NameOk_1.l0 k1 a0 (a0.size : Int) (wrap64 (x8_1 + 1))) = some r := by rw [if_pos rfl] at H; exact H
       clear H
       have H := H1
       clear H1
       have H' := Aside0.mk H
       clear H
       have p6 : 0 ≤ (x8_1 : Int) := of_decide_eq_true zb2
       have q6 : x8_1 < (a0.size : Int) := of_decide_eq_true zb2
       have hx6 := bt_at a0 x8_1
       replace p6 := eq_true p6
       replace q6 := eq_true q6
       go_wp2_with (first | (go_at_call 70; (with_reducible refine (impl_NameOk_1.calls (bt a0 x8_1) true _ A7.out).mono ?_); rintro e w' ⟨rfl, ⟨nd, rfl⟩⟩))
       go_roundg k1
       case measure => have := HK1.out; omega
       case rel => exact ⟨(wrap64 (x8_1 + 1)), zb5, H', ⟨by have := HK1.out; omega⟩, by repeat (first | exact Drawn0.refl _ | apply Drawn0.step)⟩
      ·replace c8 := Bool.eq_false_iff.mpr c8
       subst c8
       have H1 : (some false) = some r := by rw [if_neg (show ¬ (false = true) by decide)] at H; exact H
       clear H
       have H := H1
       clear H1
       obtain rfl := Option.some.inj H
       have p6 : 0 ≤ (x8_1 : Int) := of_decide_eq_true zb2
       have q6 : x8_1 < (a0.size : Int) := of_decide_eq_true zb2
       have hx6 := bt_at a0 x8_1
       replace p6 := eq_true p6
       replace q6 := eq_true q6
       go_wp2_with (first | (go_at_call 70; (with_reducible refine (impl_NameOk_1.calls (bt a0 x8_1) false _ A7.out).mono ?_); rintro e w' ⟨rfl, ⟨nd, rfl⟩⟩))
       go_ret
       exact zs1
     ·rw [if_neg c5] at H
      exact absurd H (by simp)
    ·rw [if_neg c4] at H
     exact absurd H (by simp)
   ·rw [if_neg c3] at H
    have c3b0 : decide (x8_1 < (a0.size : Int)) = false := decide_eq_false c3
    clear c3
    obtain rfl := Option.some.inj H
    go_wp2
    go_ret
    exact zs1
def impl_NameOk.l0 : Nat → ByteArray → Bool → List ByteArray → Int → Int → Option (Bool)
 | 0, _, _, _, _, _ => none
 | k + 1, x0, x3, x10, x11, x12 => if x12 < x11 then (if 0 ≤ x12 then (if x12 < (x10.length : Int) then (if (rdOf ByteArray.empty x10 x12).toList = ([] : List UInt8) then (some false) else (if (rdOf ByteArray.empty x10 x12).toList = ([110, 111, 100, 101, 95, 109, 111, 100, 117, 108, 101, 115] : List UInt8) then (if x3 = true then (if x12 = 0 then ((impl_all__impl_NameOk_1.f k (rdOf ByteArray.empty x10 x12)).bind fun t585 => (if t585 = true then (impl_NameOk.l0 k x0 x3 x10 x11 (wrap64 (x12 + 1))) else (some false))) else (some false)) else (some false)) else ((impl_all__impl_NameOk_1.f k (rdOf ByteArray.empty x10 x12)).bind fun t586 => (if t586 = true then (impl_NameOk.l0 k x0 x3 x10 x11 (wrap64 (x12 + 1))) else (some false))))) else (none)) else (none)) else (some (decide ((x0.size : Int) ≤ 60)))
def impl_NameOk.f (k : Nat) (a0 : ByteArray) : Option (Bool) := (strings_HasPrefix.f a0 (⟨#[64]⟩ : ByteArray)).bind fun t579 => ((strings_TrimPrefix.f a0 (⟨#[64]⟩ : ByteArray)).bind fun t580 => ((strings_Split.f t580 (⟨#[47]⟩ : ByteArray)).bind fun t581 => (impl_NameOk.l0 k a0 t579 t581 (t581.length : Int) 0)))
set_option maxHeartbeats 8000000 in
set_option maxRecDepth 100000 in
theorem impl_NameOk.calls (k : Nat) (a0 : ByteArray) (r : Bool) (w : World) (hGM : Glob FactM w) (h : impl_NameOk.f k a0 = some r) :
  Calls Tryz.prog 41 #[.string a0] w fun e w' => e = .returned (.bool r) ∧ Below w.heap.size w w' := by
 have HB := Aside0.mk (Below.refl w.heap.size w)
 have HGM := Aside0.mk hGM
 clear hGM
 have H : ((strings_HasPrefix.f a0 (⟨#[64]⟩ : ByteArray)).bind fun t579 => ((strings_TrimPrefix.f a0 (⟨#[64]⟩ : ByteArray)).bind fun t580 => ((strings_Split.f t580 (⟨#[47]⟩ : ByteArray)).bind fun t581 => (impl_NameOk.l0 k a0 t579 t581 (t581.length : Int) 0)))) = some r := h
 clear h
 replace H := Option.bind_eq_some_iff.mp H
 obtain ⟨t579, A20, H⟩ := H
 replace H : ((strings_TrimPrefix.f a0 (⟨#[64]⟩ : ByteArray)).bind fun t580 => ((strings_Split.f t580 (⟨#[47]⟩ : ByteArray)).bind fun t581 => (impl_NameOk.l0 k a0 t579 t581 (t581.length : Int) 0))) = some r := H
 have A2 := Aside0.mk A20
 clear A20
 replace H := Option.bind_eq_some_iff.mp H
 obtain ⟨t580, A30, H⟩ := H
 replace H : ((strings_Split.f t580 (⟨#[47]⟩ : ByteArray)).bind fun t581 => (impl_NameOk.l0 k a0 t579 t581 (t581.length : Int) 0)) = some r := H
 have A3 := Aside0.mk A30
 clear A30
 replace H := Option.bind_eq_some_iff.mp H
 obtain ⟨t581, A40, H⟩ := H
 replace H : (impl_NameOk.l0 k a0 t579 t581 (t581.length : Int) 0) = some r := H
 have A4 := Aside0.mk A40
 clear A40
 have H' := Aside0.mk H
 clear H
 go_enter Tryz.func41, Tryz.ntmps41
 go_wp2_with (first | ((with_reducible refine gate_callee (f := 67) rfl ?_); refine goesL_ (some 7) rfl rfl Tryz.func67 zb6 rfl #[.string a0, .string (⟨#[64]⟩ : ByteArray)] rfl zb1 ?_; (with_reducible refine (strings_HasPrefix.calls a0 (⟨#[64]⟩ : ByteArray) t579 _ A2.out).mono ?_); rintro e w' ⟨rfl, ⟨nd, rfl⟩⟩; refine ⟨_, rfl, ?_⟩) | ((with_reducible refine gate_callee (f := 68) rfl ?_); refine goesL_ (some 9) rfl rfl Tryz.func68 zb6 rfl #[.string a0, .string (⟨#[64]⟩ : ByteArray)] rfl zb1 ?_; (with_reducible refine (strings_TrimPrefix.calls a0 (⟨#[64]⟩ : ByteArray) t580 _ A3.out).mono ?_); rintro e w' ⟨rfl, ⟨nd, rfl⟩⟩; refine ⟨_, rfl, ?_⟩) | ((with_reducible refine gate_callee (f := 58) rfl ?_); refine goesL_ (some 10) rfl rfl Tryz.func58 zb6 rfl #[.string t580, .string (⟨#[47]⟩ : ByteArray)] rfl zb1 ?_; (with_reducible refine (strings_Split.calls t580 (⟨#[47]⟩ : ByteArray) t581 _ ?side1 A4.out).mono ?_); (case side1 => exact Glob.below HGM.out zb0); rintro e w5 ⟨v582, rfl, ho0, hb⟩; refine ⟨_, rfl, ?_⟩; have n0_ := Aside0.mk (Kd.R_lower ho0 (below_size zb0)); have n1_ := Aside0.mk (below_step zb0 hb); clear HB; have HO583 := n0_; have HB := n1_; clear n0_ n1_; (try clear hb); (try clear ho0); obtain ⟨Ao6, co6, eo6⟩ := Kd.R_slice HO583.out; subst eo6))
 go_loopg [12] k (fun kq v12 w' => ∃ (x12_1 : Int), v12 = .int .i64 x12_1 ∧ Aside0 (impl_NameOk.l0 kq a0 t579 t581 (t581.length : Int) x12_1 = some r) ∧ Aside0 (kq ≤ k) ∧ Aside0 (Kd.R Kd.string 9 w' w.heap.size (fun _ => True) (.slice Ao6 t581.length co6) t581) ∧ Aside0 (Below w.heap.size w w'))
 case atStart => exact ⟨(0), zb5, H', ⟨Nat.le_refl _⟩, ⟨by (with_reducible repeat (first | apply Kd.R_alloc | apply Kd.R_drewN | apply Kd.R_drew)); exact HO583.out⟩, ⟨by repeat (first | (with_reducible first | exact HB.out | apply below_alloc | apply pw_below_drewN | apply below_drew1) | exact HB.out)⟩⟩
 case round =>
  clear H'
  try clear p2
  try clear c4
  try clear c5
  try clear c6
  obtain ⟨x12_1, rfl, HA, HK1, HO_10, HB⟩ := hrel
  cases gk with
  | zero => exact absurd HA.out (by simp [impl_NameOk.l0])
  | succ k1 =>
   have H := HA.out
   clear HA
   simp only [impl_NameOk.l0] at H
   by_cases c7 : x12_1 < (t581.length : Int)
   ·rw [if_pos c7] at H
    have c7b0 : decide (x12_1 < (t581.length : Int)) = true := decide_eq_true c7
    clear c7
    by_cases c8 : 0 ≤ x12_1
    ·rw [if_pos c8] at H
     have c8b0 : decide (0 ≤ x12_1) = true := decide_eq_true c8
     clear c8
     by_cases c9 : x12_1 < (t581.length : Int)
     ·rw [if_pos c9] at H
      have c9b0 : decide (x12_1 < (t581.length : Int)) = true := decide_eq_true c9
      clear c9
      by_cases c10 : (rdOf ByteArray.empty t581 x12_1).toList = ([] : List UInt8)
      ·rw [if_pos c10] at H
       have c10b0 : ((rdOf ByteArray.empty t581 x12_1).toList == ([] : List UInt8)) = true := beq_iff_eq.mpr c10
       have c10b1 : ((rdOf ByteArray.empty t581 x12_1).toList != ([] : List UInt8)) = false := bne_eq_false_iff_eq.mpr c10
       clear c10
       obtain rfl := Option.some.inj H
       have p584 : 0 ≤ (x12_1 : Int) := of_decide_eq_true zb2
       have q584 : x12_1 < (t581.length : Int) := of_decide_eq_true zb2
       obtain ⟨ad584, e584, hx584_0⟩ := Kd.at_string (Kd.R_reads' HO_10.out).2.2 x12_1 p584 q584
       cases e584
       replace p584 := eq_true p584
       replace q584 := eq_true q584
       go_wp2
       go_ret
       exact zs3
      ·rw [if_neg c10] at H
       have c10b0 : ((rdOf ByteArray.empty t581 x12_1).toList == ([] : List UInt8)) = false := beq_eq_false_iff_ne.mpr c10
       have c10b1 : ((rdOf ByteArray.empty t581 x12_1).toList != ([] : List UInt8)) = true := bne_iff_ne.mpr c10
       by_cases c11 : (rdOf ByteArray.empty t581 x12_1).toList = ([110, 111, 100, 101, 95, 109, 111, 100, 117, 108, 101, 115] : List UInt8)
       ·rw [if_pos c11] at H
        have c11b0 : ((rdOf ByteArray.empty t581 x12_1).toList == ([110, 111, 100, 101, 95, 109, 111, 100, 117, 108, 101, 115] : List UInt8)) = true := beq_iff_eq.mpr c11
        have c11b1 : ((rdOf ByteArray.empty t581 x12_1).toList != ([110, 111, 100, 101, 95, 109, 111, 100, 117, 108, 101, 115] : List UInt8)) = false := bne_eq_false_iff_eq.mpr c11
        clear c11
        by_cases c12 : t579 = true
        ·subst c12
         have H1 : (if x12_1 = 0 then ((impl_all__impl_NameOk_1.f k1 (rdOf ByteArray.empty t581 x12_1)).bind fun t585 => (if t585 = true then (impl_NameOk.l0 k1 a0 true t581 (t581.length : Int) (wrap64 (x12_1 + 1))) else (some false))) else (some false)) = some r := by rw [if_pos rfl] at H; exact H
         clear H
         have H := H1
         clear H1
         by_cases c13 : x12_1 = 0
         ·rw [if_pos c13] at H
          have c13b0 : (x12_1 == 0) = true := beq_iff_eq.mpr c13
          have c13b1 : (x12_1 != 0) = false := bne_eq_false_iff_eq.mpr c13
          clear c13
          replace H := Option.bind_eq_some_iff.mp H
          obtain ⟨t585, A140, H⟩ := H
          replace H : (if t585 = true then (impl_NameOk.l0 k1 a0 true t581 (t581.length : Int) (wrap64 (x12_1 + 1))) else (some false)) = some r := H
          have A14 := Aside0.mk A140
          clear A140
          by_cases c15 : t585 = true
          ·subst c15
           have H1 : (impl_NameOk.l0 k1 a0 true t581 (t581.length : Int) (wrap64 (x12_1 + 1))) = some r := by rw [if_pos rfl] at H; exact H
           clear H
           have H := H1
           clear H1
           have H' := Aside0.mk H
           clear H
           have p584 : 0 ≤ (x12_1 : Int) := of_decide_eq_true zb2
           have q584 : x12_1 < (t581.length : Int) := of_decide_eq_true zb2
           obtain ⟨ad584, e584, hx584_0⟩ := Kd.at_string (Kd.R_reads' HO_10.out).2.2 x12_1 p584 q584
           cases e584
           replace p584 := eq_true p584
           replace q584 := eq_true q584
           go_wp2_with (first | (go_at_call 69; (with_reducible refine (impl_all__impl_NameOk_1.calls k1 (rdOf ByteArray.empty t581 x12_1) true _ A14.out).mono ?_); rintro e w' ⟨rfl, ⟨nd, rfl⟩⟩))
           go_roundg k1
           case measure => have := HK1.out; omega
           case rel => exact ⟨(wrap64 (x12_1 + 1)), zb5, H', ⟨by have := HK1.out; omega⟩, ⟨by (with_reducible repeat (first | apply Kd.R_alloc | apply Kd.R_drewN | apply Kd.R_drew)); exact HO_10.out⟩, ⟨by repeat (first | (with_reducible first | exact HB.out | apply below_alloc | apply pw_below_drewN | apply below_drew1) | exact HB.out)⟩⟩
          ·replace c15 := Bool.eq_false_iff.mpr c15
           subst c15
           have H1 : (some false) = some r := by rw [if_neg (show ¬ (false = true) by decide)] at H; exact H
           clear H
           have H := H1
           clear H1
           obtain rfl := Option.some.inj H
           have p584 : 0 ≤ (x12_1 : Int) := of_decide_eq_true zb2
           have q584 : x12_1 < (t581.length : Int) := of_decide_eq_true zb2
           obtain ⟨ad584, e584, hx584_0⟩ := Kd.at_string (Kd.R_reads' HO_10.out).2.2 x12_1 p584 q584
           cases e584
           replace p584 := eq_true p584
           replace q584 := eq_true q584
           go_wp2_with (first | (go_at_call 69; (with_reducible refine (impl_all__impl_NameOk_1.calls k1 (rdOf ByteArray.empty t581 x12_1) false _ A14.out).mono ?_); rintro e w' ⟨rfl, ⟨nd, rfl⟩⟩))
           go_ret
           exact zs3
         ·rw [if_neg c13] at H
          have c13b0 : (x12_1 == 0) = false := beq_eq_false_iff_ne.mpr c13
          have c13b1 : (x12_1 != 0) = true := bne_iff_ne.mpr c13
          obtain rfl := Option.some.inj H
          have p584 : 0 ≤ (x12_1 : Int) := of_decide_eq_true zb2
          have q584 : x12_1 < (t581.length : Int) := of_decide_eq_true zb2
          obtain ⟨ad584, e584, hx584_0⟩ := Kd.at_string (Kd.R_reads' HO_10.out).2.2 x12_1 p584 q584
          cases e584
          replace p584 := eq_true p584
          replace q584 := eq_true q584
          go_wp2
          go_ret
          exact zs3
        ·replace c12 := Bool.eq_false_iff.mpr c12
         subst c12
         have H1 : (some false) = some r := by rw [if_neg (show ¬ (false = true) by decide)] at H; exact H
         clear H
         have H := H1
         clear H1
         obtain rfl := Option.some.inj H
         have p584 : 0 ≤ (x12_1 : Int) := of_decide_eq_true zb2
         have q584 : x12_1 < (t581.length : Int) := of_decide_eq_true zb2
         obtain ⟨ad584, e584, hx584_0⟩ := Kd.at_string (Kd.R_reads' HO_10.out).2.2 x12_1 p584 q584
         cases e584
         replace p584 := eq_true p584
         replace q584 := eq_true q584
         go_wp2
         go_ret
         exact zs3
       ·rw [if_neg c11] at H
        have c11b0 : ((rdOf ByteArray.empty t581 x12_1).toList == ([110, 111, 100, 101, 95, 109, 111, 100, 117, 108, 101, 115] : List UInt8)) = false := beq_eq_false_iff_ne.mpr c11
        have c11b1 : ((rdOf ByteArray.empty t581 x12_1).toList != ([110, 111, 100, 101, 95, 109, 111, 100, 117, 108, 101, 115] : List UInt8)) = true := bne_iff_ne.mpr c11
        replace H := Option.bind_eq_some_iff.mp H
        obtain ⟨t586, A160, H⟩ := H
        replace H : (if t586 = true then (impl_NameOk.l0 k1 a0 t579 t581 (t581.length : Int) (wrap64 (x12_1 + 1))) else (some false)) = some r := H
        have A16 := Aside0.mk A160
        clear A160
        by_cases c17 : t586 = true
        ·subst c17
         have H1 : (impl_NameOk.l0 k1 a0 t579 t581 (t581.length : Int) (wrap64 (x12_1 + 1))) = some r := by rw [if_pos rfl] at H; exact H
         clear H
         have H := H1
         clear H1
         have H' := Aside0.mk H
         clear H
         have p584 : 0 ≤ (x12_1 : Int) := of_decide_eq_true zb2
         have q584 : x12_1 < (t581.length : Int) := of_decide_eq_true zb2
         obtain ⟨ad584, e584, hx584_0⟩ := Kd.at_string (Kd.R_reads' HO_10.out).2.2 x12_1 p584 q584
         cases e584
         replace p584 := eq_true p584
         replace q584 := eq_true q584
         go_wp2_with (first | (go_at_call 69; (with_reducible refine (impl_all__impl_NameOk_1.calls k1 (rdOf ByteArray.empty t581 x12_1) true _ A16.out).mono ?_); rintro e w' ⟨rfl, ⟨nd, rfl⟩⟩))
         go_roundg k1
         case measure => have := HK1.out; omega
         case rel => exact ⟨(wrap64 (x12_1 + 1)), zb5, H', ⟨by have := HK1.out; omega⟩, ⟨by (with_reducible repeat (first | apply Kd.R_alloc | apply Kd.R_drewN | apply Kd.R_drew)); exact HO_10.out⟩, ⟨by repeat (first | (with_reducible first | exact HB.out | apply below_alloc | apply pw_below_drewN | apply below_drew1) | exact HB.out)⟩⟩
        ·replace c17 := Bool.eq_false_iff.mpr c17
         subst c17
         have H1 : (some false) = some r := by rw [if_neg (show ¬ (false = true) by decide)] at H; exact H
         clear H
         have H := H1
         clear H1
         obtain rfl := Option.some.inj H
         have p584 : 0 ≤ (x12_1 : Int) := of_decide_eq_true zb2
         have q584 : x12_1 < (t581.length : Int) := of_decide_eq_true zb2
         obtain ⟨ad584, e584, hx584_0⟩ := Kd.at_string (Kd.R_reads' HO_10.out).2.2 x12_1 p584 q584
         cases e584
         replace p584 := eq_true p584
         replace q584 := eq_true q584
         go_wp2_with (first | (go_at_call 69; (with_reducible refine (impl_all__impl_NameOk_1.calls k1 (rdOf ByteArray.empty t581 x12_1) false _ A16.out).mono ?_); rintro e w' ⟨rfl, ⟨nd, rfl⟩⟩))
         go_ret
         exact zs3
     ·rw [if_neg c9] at H
      exact absurd H (by simp)
    ·rw [if_neg c8] at H
     exact absurd H (by simp)
   ·rw [if_neg c7] at H
    have c7b0 : decide (x12_1 < (t581.length : Int)) = false := decide_eq_false c7
    clear c7
    obtain rfl := Option.some.inj H
    go_wp2
    go_ret
    exact zs3
def strings_Cut.f (a0 : ByteArray) (a1 : ByteArray) : Option (ByteArray × ByteArray × Bool) := if a0.size < 4294967281 then some (⟨(Lib.cut a0.data.toList a1.data.toList).1.toArray⟩, ⟨(Lib.cut a0.data.toList a1.data.toList).2.1.toArray⟩, (Lib.cut a0.data.toList a1.data.toList).2.2) else none
theorem strings_Cut.calls (a0 : ByteArray) (a1 : ByteArray) (r1 : ByteArray) (r2 : ByteArray) (r3 : Bool) (w : World) (hGM : Glob FactM w) (h : strings_Cut.f a0 a1 = some (r1, r2, r3)) :
  Calls Tryz.prog 57 #[.string a0, .string a1] w fun e w' => e = .returned (.tuple #[.string r1, .string r2, .bool r3]) ∧ Drawn0 w w' := by
 unfold strings_Cut.f at h
 by_cases hc : a0.size < 4294967281
 ·rw [if_pos hc] at h
  obtain ⟨rfl, rfl, rfl⟩ := by simpa using h
  obtain ⟨m, hm⟩ := FactM.here hGM
  exact (Tryz.strings_Cut a0 a1 m w hc hm).mono fun e w' ⟨h1, h2⟩ => ⟨h1, ⟨h2⟩⟩
 ·rw [if_neg hc] at h; cases h
def impl_within.f (a0 : Int) (a1 : Int) (a2 : Int) : Option (Bool) := if a1 ≤ a0 then (some (decide (a0 ≤ a2))) else (some false)
set_option maxHeartbeats 8000000 in
set_option maxRecDepth 100000 in
theorem impl_within.calls (a0 : Int) (a1 : Int) (a2 : Int) (r : Bool) (w : World) (h : impl_within.f a0 a1 a2 = some r) :
  Calls Tryz.prog 61 #[.int .i64 a0, .int .i64 a1, .int .i64 a2] w fun e w' => e = .returned (.bool r) ∧ Drawn0 w w' := by
 have H : (if a1 ≤ a0 then (some (decide (a0 ≤ a2))) else (some false)) = some r := h
 clear h
 by_cases c4 : a1 ≤ a0
 ·rw [if_pos c4] at H
  have c4b0 : decide (a1 ≤ a0) = true := decide_eq_true c4
  clear c4
  obtain rfl := Option.some.inj H
  go_enter Tryz.func61, Tryz.ntmps61
  go_wp2
  go_ret
  exact zs1
 ·rw [if_neg c4] at H
  have c4b0 : decide (a1 ≤ a0) = false := decide_eq_false c4
  clear c4
  obtain rfl := Option.some.inj H
  go_enter Tryz.func61, Tryz.ntmps61
  go_wp2
  go_ret
  exact zs1
def strconv_Itoa.f (a0 : Int) : Option ByteArray := if -9223372036854775808 ≤ a0 ∧ a0 ≤ 9223372036854775807 then some ⟨(Lib.itoa a0).toArray⟩ else none
theorem strconv_Itoa.calls (a0 : Int) (r : ByteArray) (w : World) (hGT : Glob FactT w) (h : strconv_Itoa.f a0 = some r) :
  Calls Tryz.prog 114 #[.int .i64 a0] w fun e w' => e = .returned (.string r) ∧ Below w.heap.size w w' := by
 unfold strconv_Itoa.f at h
 by_cases hc : -9223372036854775808 ≤ a0 ∧ a0 ≤ 9223372036854775807
 ·rw [if_pos hc] at h
  obtain rfl := Option.some.inj h
  refine (Tryz.strconv_Itoa a0 hc.1 hc.2 w (FactT.here hGT)).mono fun e w' ⟨h1, k, os, h2⟩ => ⟨h1, ?_⟩
  rw [h2]; exact Lib.below_grow _ w (Nat.le_refl _) k os
 ·rw [if_neg hc] at h; cases h
def impl_DecText.f (a0 : Int) : Option (ByteArray) := (strconv_Itoa.f a0).bind fun t227 => (some t227)
set_option maxHeartbeats 8000000 in
set_option maxRecDepth 100000 in
theorem impl_DecText.calls (a0 : Int) (r : ByteArray) (w : World) (hGT : Glob FactT w) (h : impl_DecText.f a0 = some r) :
  Calls Tryz.prog 86 #[.int .i64 a0] w fun e w' => e = .returned (.string r) ∧ Below w.heap.size w w' := by
 have HB := Aside0.mk (Below.refl w.heap.size w)
 have HGT := Aside0.mk hGT
 clear hGT
 have H : ((strconv_Itoa.f a0).bind fun t227 => (some t227)) = some r := h
 clear h
 replace H := Option.bind_eq_some_iff.mp H
 obtain ⟨t227, A20, H⟩ := H
 replace H : (some t227) = some r := H
 have A2 := Aside0.mk A20
 clear A20
 obtain rfl := Option.some.inj H
 go_enter Tryz.func86, Tryz.ntmps86
 go_wp2_with (first | ((with_reducible refine gate_callee (f := 114) rfl ?_); refine goesL_ (some 4) rfl rfl Tryz.func114 zb6 rfl #[.int .i64 a0] rfl zb1 ?_; (with_reducible refine (strconv_Itoa.calls a0 t227 _ ?side1 A2.out).mono ?_); (case side1 => exact Glob.below HGT.out zb0); rintro e w3 ⟨rfl, hb⟩; refine ⟨_, rfl, ?_⟩; have n0_ := Aside0.mk (below_step zb0 hb); clear HB; have HB := n0_; clear n0_; (try clear hb)))
 go_ret
 exact zs3
def impl_ReadDec.f (a0 : ByteArray) : Option Int := if a0.size ≤ 281474976710656 then (match Lib.atoiAll a0.data.toList with | .ok n => (impl_within.f n 0 999999999).bind fun t => if t = true then (impl_DecText.f n).bind fun s => if s.toList = a0.toList then some n else some (-1) else some (-1) | _ => some (-1)) else none
set_option maxRecDepth 100000 in
theorem impl_ReadDec.zl1 {P : Prop} (h : P := by
 go_enter Tryz.func59, Tryz.ntmps59
 go_wp2_with (first | (go_at_call 85; (with_reducible refine C.out.mono ?_); rintro e w' ⟨rfl, hb⟩; have n0_ := Aside0.mk (below_step zb0 hb); clear HB; have HB := n0_; clear n0_; (try clear hb)) | (go_at_call 61; (with_reducible refine (impl_within.calls n 0 999999999 true _ Aw.out).mono ?_); rintro e w' ⟨rfl, ⟨nd, rfl⟩⟩) | (go_at_call 86; (with_reducible refine (impl_DecText.calls n ts _ ?side1 As.out).mono ?_); (case side1 => exact Glob.below HGT.out zb0); rintro e w3 ⟨rfl, hb⟩; have n0_ := Aside0.mk (below_step zb0 hb); clear HB; have HB := n0_; clear n0_; (try clear hb)) | (go_at_call 61; (with_reducible refine (impl_within.calls n 0 999999999 false _ Aw.out).mono ?_); rintro e w' ⟨rfl, ⟨nd, rfl⟩⟩))
 go_ret
 exact ⟨by first | rfl | (simp; done), by repeat (first | (with_reducible first | exact HB.out | apply below_alloc | apply pw_below_drewN | apply below_drew1) | exact HB.out)⟩) : P := h
set_option maxHeartbeats 8000000 in
set_option maxRecDepth 100000 in
theorem impl_ReadDec.calls (a0 : ByteArray) (r : Int) (w : World) (hGE : Glob FactE w) (hGT : Glob FactT w) (h : impl_ReadDec.f a0 = some r) :
  Calls Tryz.prog 59 #[.string a0] w fun e w' => e = .returned (.int .i64 r) ∧ Below w.heap.size w w' := by
 have HB := Aside0.mk (Below.refl w.heap.size w)
 have HGT := Aside0.mk hGT
 clear hGT
 unfold impl_ReadDec.f at h
 by_cases hc : a0.size ≤ 281474976710656
 case neg => rw [if_neg hc] at h; cases h
 rw [if_pos hc] at h
 obtain ⟨⟨t1, p1, e1⟩, ⟨t2, p2, e2⟩⟩ := FactE.here hGE
 clear hGE
 cases ha : Lib.atoiAll a0.data.toList
 ·rename_i n
  rw [ha] at h
  have C : Calls Tryz.prog 85 #[.string a0] w fun e w' => e = .returned (.tuple #[.int .i64 n, .nilIface]) ∧ Below w.heap.size w w' := by
   refine (Tryz.strconv_Atoi_ok a0 (by omega) n ha w).mono fun e w' ⟨h1, h2⟩ => ⟨h1, ?_⟩
   rcases h2 with rfl | ⟨t, rfl⟩
   ·exact Below.refl _ _
   ·exact Go.Joins.below_bytesWorld _ w _ t (Nat.le_refl _)
  replace C := Aside0.mk C
  clear ha e1 e2
  have H : ((impl_within.f n 0 999999999).bind fun t => if t = true then (impl_DecText.f n).bind fun s => if s.toList = a0.toList then some n else some (-1) else some (-1)) = some r := h
  clear h
  replace H := Option.bind_eq_some_iff.mp H
  obtain ⟨tw, Aw0, H⟩ := H
  have Aw := Aside0.mk Aw0
  clear Aw0
  replace H : (if tw = true then (impl_DecText.f n).bind fun s => if s.toList = a0.toList then some n else some (-1) else some (-1)) = some r := H
  cases tw with
  | false =>
   rw [if_neg (by decide)] at H
   obtain rfl := Option.some.inj H
   exact impl_ReadDec.zl1
  | true =>
   rw [if_pos rfl] at H
   replace H := Option.bind_eq_some_iff.mp H
   obtain ⟨ts, As0, H⟩ := H
   have As := Aside0.mk As0
   clear As0
   replace H : (if ts.toList = a0.toList then some n else some (-1)) = some r := H
   by_cases c4 : ts.toList = a0.toList
   ·rw [if_pos c4] at H
    have c4b0 : (ts.toList == a0.toList) = true := beq_iff_eq.mpr c4
    have c4b1 : (ts.toList != a0.toList) = false := bne_eq_false_iff_eq.mpr c4
    clear c4
    obtain rfl := Option.some.inj H
    exact impl_ReadDec.zl1
   ·rw [if_neg c4] at H
    have c4b0 : (ts.toList == a0.toList) = false := beq_eq_false_iff_ne.mpr c4
    have c4b1 : (ts.toList != a0.toList) = true := bne_iff_ne.mpr c4
    clear c4
    obtain rfl := Option.some.inj H
    exact impl_ReadDec.zl1
 ·rw [ha] at h
  obtain rfl := Option.some.inj h
  have C0 := Any.strconv_Atoi_syntax_var Tryz.laysC172 a0 hc ha t1 p1 w e1
  have C1 : Calls Tryz.prog 85 #[.string a0] w fun e w' => ∃ N t, e = .returned (.tuple #[.int .i64 0, .iface t (.pointer (some ⟨N, 0, none⟩))]) ∧ Below w.heap.size w w' :=
   (show Calls Tryz.prog 85 _ _ _ from C0).mono fun e w' ⟨N, h1, _, _, h4⟩ => ⟨N, _, h1, h4⟩
  have C := Aside0.mk C1
  clear C0 C1
  clear ha e1 e2 h
  go_enter Tryz.func59, Tryz.ntmps59
  go_wp2_with (go_at_call 85; (with_reducible refine C.out.mono ?_); rintro e w' ⟨NE, TE, rfl, hb⟩; have n0_ := Aside0.mk (below_step zb0 hb); clear HB; have HB := n0_; clear n0_; (try clear hb))
  go_ret
  exact ⟨by first | rfl | (simp; done), by repeat (first | (with_reducible first | exact HB.out | apply below_alloc | apply pw_below_drewN | apply below_drew1) | exact HB.out)⟩
 ·rw [ha] at h
  obtain rfl := Option.some.inj h
  have C := Aside0.mk (Tryz.strconv_Atoi_range_var a0 hc ha t2 p2 w e2)
  clear ha e1 e2 h
  go_enter Tryz.func59, Tryz.ntmps59
  go_wp2_with (go_at_call 85; (with_reducible refine C.out.mono ?_); rintro e w' ⟨NE, rfl, -, -, hb⟩; have n0_ := Aside0.mk (below_step zb0 hb); clear HB; have HB := n0_; clear n0_; (try clear hb))
  go_ret
  exact ⟨by first | rfl | (simp; done), by repeat (first | (with_reducible first | exact HB.out | apply below_alloc | apply pw_below_drewN | apply below_drew1) | exact HB.out)⟩
def impl_all__impl_isDigit.l0 : Nat → ByteArray → Int → Int → Option (Bool)
 | 0, _, _, _ => none
 | k + 1, x0, x7, x8 => if x8 < x7 then (if 0 ≤ x8 then (if x8 < (x0.size : Int) then ((impl_isDigit.f (bt x0 x8)).bind fun t231 => (if t231 = true then (impl_all__impl_isDigit.l0 k x0 x7 (wrap64 (x8 + 1))) else (some false))) else (none)) else (none)) else (some true)
def impl_all__impl_isDigit.f (k : Nat) (a0 : ByteArray)  : Option (Bool) := impl_all__impl_isDigit.l0 k a0 (a0.size : Int) 0
set_option maxHeartbeats 8000000 in
set_option maxRecDepth 100000 in
theorem impl_all__impl_isDigit.calls (k : Nat) (a0 : ByteArray)  (r : Bool) (w : World) (h : impl_all__impl_isDigit.f k a0 = some r) :
  Calls Tryz.prog 69 #[.string a0, (.func (.func 72) #[] #[])] w fun e w' => e = .returned (.bool r) ∧ Drawn0 w w' := by
 have H : (impl_all__impl_isDigit.l0 k a0 (a0.size : Int) 0) = some r := h
 clear h
 have H' := Aside0.mk H
 clear H
 go_enter Tryz.func69, Tryz.ntmps69
 go_wp2
 go_loopg [8] k (fun kq v8 w' => ∃ (x8_1 : Int), v8 = .int .i64 x8_1 ∧ Aside0 (impl_all__impl_isDigit.l0 kq a0 (a0.size : Int) x8_1 = some r) ∧ Aside0 (kq ≤ k) ∧ Drawn0 w w')
 case atStart => exact ⟨(0), zb5, H', ⟨Nat.le_refl _⟩, by repeat (first | exact Drawn0.refl _ | apply Drawn0.step)⟩
 case round =>
  clear H'
  try clear p2
  obtain ⟨x8_1, rfl, HA, HK1, ⟨m1, rfl⟩⟩ := hrel
  cases gk with
  | zero => exact absurd HA.out (by simp [impl_all__impl_isDigit.l0])
  | succ k1 =>
   have H := HA.out
   clear HA
   simp only [impl_all__impl_isDigit.l0] at H
   by_cases c3 : x8_1 < (a0.size : Int)
   ·rw [if_pos c3] at H
    have c3b0 : decide (x8_1 < (a0.size : Int)) = true := decide_eq_true c3
    clear c3
    by_cases c4 : 0 ≤ x8_1
    ·rw [if_pos c4] at H
     have c4b0 : decide (0 ≤ x8_1) = true := decide_eq_true c4
     clear c4
     by_cases c5 : x8_1 < (a0.size : Int)
     ·rw [if_pos c5] at H
      have c5b0 : decide (x8_1 < (a0.size : Int)) = true := decide_eq_true c5
      clear c5
      replace H := Option.bind_eq_some_iff.mp H
      obtain ⟨t231, A70, H⟩ := H
      replace H : (if t231 = true then (impl_all__impl_isDigit.l0 k1 a0 (a0.size : Int) (wrap64 (x8_1 + 1))) else (some false)) = some r := H
      have A7 := Aside0.mk A70
      clear A70
      by_cases c8 : t231 = true
      ·subst c8
       have H1 : (impl_all__impl_isDigit.l0 k1 a0 (a0.size : Int) (wrap64 (x8_1 + 1))) = some r := by rw [if_pos rfl] at H; exact H
       clear H
       have H := H1
       clear H1
       have H' := Aside0.mk H
       clear H
       have p6 : 0 ≤ (x8_1 : Int) := of_decide_eq_true zb2
       have q6 : x8_1 < (a0.size : Int) := of_decide_eq_true zb2
       have hx6 := bt_at a0 x8_1
       replace p6 := eq_true p6
       replace q6 := eq_true q6
       go_wp2_with (first | (go_at_call 72; (with_reducible refine (impl_isDigit.calls (bt a0 x8_1) true _ A7.out).mono ?_); rintro e w' ⟨rfl, ⟨nd, rfl⟩⟩))
       go_roundg k1
       case measure => have := HK1.out; omega
       case rel => exact ⟨(wrap64 (x8_1 + 1)), zb5, H', ⟨by have := HK1.out; omega⟩, by repeat (first | exact Drawn0.refl _ | apply Drawn0.step)⟩
      ·replace c8 := Bool.eq_false_iff.mpr c8
       subst c8
       have H1 : (some false) = some r := by rw [if_neg (show ¬ (false = true) by decide)] at H; exact H
       clear H
       have H := H1
       clear H1
       obtain rfl := Option.some.inj H
       have p6 : 0 ≤ (x8_1 : Int) := of_decide_eq_true zb2
       have q6 : x8_1 < (a0.size : Int) := of_decide_eq_true zb2
       have hx6 := bt_at a0 x8_1
       replace p6 := eq_true p6
       replace q6 := eq_true q6
       go_wp2_with (first | (go_at_call 72; (with_reducible refine (impl_isDigit.calls (bt a0 x8_1) false _ A7.out).mono ?_); rintro e w' ⟨rfl, ⟨nd, rfl⟩⟩))
       go_ret
       exact zs1
     ·rw [if_neg c5] at H
      exact absurd H (by simp)
    ·rw [if_neg c4] at H
     exact absurd H (by simp)
   ·rw [if_neg c3] at H
    have c3b0 : decide (x8_1 < (a0.size : Int)) = false := decide_eq_false c3
    clear c3
    obtain rfl := Option.some.inj H
    go_wp2
    go_ret
    exact zs1
def impl_isNumber.f (k : Nat) (a0 : ByteArray) : Option (Bool) := if a0.toList = ([] : List UInt8) then (some false) else ((impl_all__impl_isDigit.f k a0).bind fun t232 => (some t232))
set_option maxHeartbeats 8000000 in
set_option maxRecDepth 100000 in
theorem impl_isNumber.calls (k : Nat) (a0 : ByteArray) (r : Bool) (w : World) (h : impl_isNumber.f k a0 = some r) :
  Calls Tryz.prog 117 #[.string a0] w fun e w' => e = .returned (.bool r) ∧ Drawn0 w w' := by
 have H : (if a0.toList = ([] : List UInt8) then (some false) else ((impl_all__impl_isDigit.f k a0).bind fun t232 => (some t232))) = some r := h
 clear h
 by_cases c2 : a0.toList = ([] : List UInt8)
 ·rw [if_pos c2] at H
  have c2b0 : (a0.toList == ([] : List UInt8)) = true := beq_iff_eq.mpr c2
  have c2b1 : (a0.toList != ([] : List UInt8)) = false := bne_eq_false_iff_eq.mpr c2
  clear c2
  obtain rfl := Option.some.inj H
  go_enter Tryz.func117, Tryz.ntmps117
  go_wp2
  go_ret
  exact zs1
 ·rw [if_neg c2] at H
  have c2b0 : (a0.toList == ([] : List UInt8)) = false := beq_eq_false_iff_ne.mpr c2
  have c2b1 : (a0.toList != ([] : List UInt8)) = true := bne_iff_ne.mpr c2
  replace H := Option.bind_eq_some_iff.mp H
  obtain ⟨t232, A30, H⟩ := H
  replace H : (some t232) = some r := H
  have A3 := Aside0.mk A30
  clear A30
  obtain rfl := Option.some.inj H
  go_enter Tryz.func117, Tryz.ntmps117
  go_wp2_with (first | (go_at_call 69; (with_reducible refine (impl_all__impl_isDigit.calls k a0 t232 _ A3.out).mono ?_); rintro e w' ⟨rfl, ⟨nd, rfl⟩⟩))
  go_ret
  exact zs1
def impl_isLetter.f (a0 : Int) : Option (Bool) := (impl_isLower.f a0).bind fun t228 => (if t228 = true then (some true) else (if a0 ≥ 65 then (some (decide (a0 ≤ 90))) else (some false)))
set_option maxHeartbeats 8000000 in
set_option maxRecDepth 100000 in
theorem impl_isLetter.calls (a0 : Int) (r : Bool) (w : World) (h : impl_isLetter.f a0 = some r) :
  Calls Tryz.prog 116 #[.int .u8 a0] w fun e w' => e = .returned (.bool r) ∧ Drawn0 w w' := by
 have H : ((impl_isLower.f a0).bind fun t228 => (if t228 = true then (some true) else (if a0 ≥ 65 then (some (decide (a0 ≤ 90))) else (some false)))) = some r := h
 clear h
 replace H := Option.bind_eq_some_iff.mp H
 obtain ⟨t228, A20, H⟩ := H
 replace H : (if t228 = true then (some true) else (if a0 ≥ 65 then (some (decide (a0 ≤ 90))) else (some false))) = some r := H
 have A2 := Aside0.mk A20
 clear A20
 by_cases c3 : t228 = true
 ·subst c3
  have H1 : (some true) = some r := by rw [if_pos rfl] at H; exact H
  clear H
  have H := H1
  clear H1
  obtain rfl := Option.some.inj H
  go_enter Tryz.func116, Tryz.ntmps116
  go_wp2_with (first | ((with_reducible refine gate_callee (f := 71) rfl ?_); refine goesL_ (some 4) rfl rfl Tryz.func71 zb6 rfl #[.int .u8 a0] rfl zb1 ?_; (with_reducible refine (impl_isLower.calls a0 true _ A2.out).mono ?_); rintro e w' ⟨rfl, ⟨nd, rfl⟩⟩; refine ⟨_, rfl, ?_⟩))
  go_ret
  exact zs1
 ·replace c3 := Bool.eq_false_iff.mpr c3
  subst c3
  have H1 : (if a0 ≥ 65 then (some (decide (a0 ≤ 90))) else (some false)) = some r := by rw [if_neg (show ¬ (false = true) by decide)] at H; exact H
  clear H
  have H := H1
  clear H1
  by_cases c4 : a0 ≥ 65
  ·rw [if_pos c4] at H
   have c4b0 : decide (65 ≤ a0) = true := decide_eq_true c4
   clear c4
   obtain rfl := Option.some.inj H
   go_enter Tryz.func116, Tryz.ntmps116
   go_wp2_with (first | ((with_reducible refine gate_callee (f := 71) rfl ?_); refine goesL_ (some 4) rfl rfl Tryz.func71 zb6 rfl #[.int .u8 a0] rfl zb1 ?_; (with_reducible refine (impl_isLower.calls a0 false _ A2.out).mono ?_); rintro e w' ⟨rfl, ⟨nd, rfl⟩⟩; refine ⟨_, rfl, ?_⟩))
   go_ret
   exact zs1
  ·rw [if_neg c4] at H
   have c4b0 : decide (65 ≤ a0) = false := decide_eq_false c4
   clear c4
   obtain rfl := Option.some.inj H
   go_enter Tryz.func116, Tryz.ntmps116
   go_wp2_with (first | ((with_reducible refine gate_callee (f := 71) rfl ?_); refine goesL_ (some 4) rfl rfl Tryz.func71 zb6 rfl #[.int .u8 a0] rfl zb1 ?_; (with_reducible refine (impl_isLower.calls a0 false _ A2.out).mono ?_); rintro e w' ⟨rfl, ⟨nd, rfl⟩⟩; refine ⟨_, rfl, ?_⟩))
   go_ret
   exact zs1
def impl_VersionOk_1.f (a0 : Int) : Option (Bool) := (impl_isLetter.f a0).bind fun t229 => (if t229 = true then (some true) else ((impl_isDigit.f a0).bind fun t230 => (if t230 = true then (some true) else (some (a0 == 45)))))
set_option maxHeartbeats 8000000 in
set_option maxRecDepth 100000 in
theorem impl_VersionOk_1.calls (a0 : Int) (r : Bool) (w : World) (h : impl_VersionOk_1.f a0 = some r) :
  Calls Tryz.prog 115 #[.int .u8 a0] w fun e w' => e = .returned (.bool r) ∧ Drawn0 w w' := by
 have H : ((impl_isLetter.f a0).bind fun t229 => (if t229 = true then (some true) else ((impl_isDigit.f a0).bind fun t230 => (if t230 = true then (some true) else (some (a0 == 45)))))) = some r := h
 clear h
 replace H := Option.bind_eq_some_iff.mp H
 obtain ⟨t229, A20, H⟩ := H
 replace H : (if t229 = true then (some true) else ((impl_isDigit.f a0).bind fun t230 => (if t230 = true then (some true) else (some (a0 == 45))))) = some r := H
 have A2 := Aside0.mk A20
 clear A20
 by_cases c3 : t229 = true
 ·subst c3
  have H1 : (some true) = some r := by rw [if_pos rfl] at H; exact H
  clear H
  have H := H1
  clear H1
  obtain rfl := Option.some.inj H
  go_enter Tryz.func115, Tryz.ntmps115
  go_wp2_with (first | ((with_reducible refine gate_callee (f := 116) rfl ?_); refine goesL_ (some 4) rfl rfl Tryz.func116 zb6 rfl #[.int .u8 a0] rfl zb1 ?_; (with_reducible refine (impl_isLetter.calls a0 true _ A2.out).mono ?_); rintro e w' ⟨rfl, ⟨nd, rfl⟩⟩; refine ⟨_, rfl, ?_⟩))
  go_ret
  exact zs1
 ·replace c3 := Bool.eq_false_iff.mpr c3
  subst c3
  have H1 : ((impl_isDigit.f a0).bind fun t230 => (if t230 = true then (some true) else (some (a0 == 45)))) = some r := by rw [if_neg (show ¬ (false = true) by decide)] at H; exact H
  clear H
  have H := H1
  clear H1
  replace H := Option.bind_eq_some_iff.mp H
  obtain ⟨t230, A40, H⟩ := H
  replace H : (if t230 = true then (some true) else (some (a0 == 45))) = some r := H
  have A4 := Aside0.mk A40
  clear A40
  by_cases c5 : t230 = true
  ·subst c5
   have H1 : (some true) = some r := by rw [if_pos rfl] at H; exact H
   clear H
   have H := H1
   clear H1
   obtain rfl := Option.some.inj H
   go_enter Tryz.func115, Tryz.ntmps115
   go_wp2_with (first | ((with_reducible refine gate_callee (f := 116) rfl ?_); refine goesL_ (some 4) rfl rfl Tryz.func116 zb6 rfl #[.int .u8 a0] rfl zb1 ?_; (with_reducible refine (impl_isLetter.calls a0 false _ A2.out).mono ?_); rintro e w' ⟨rfl, ⟨nd, rfl⟩⟩; refine ⟨_, rfl, ?_⟩) | (go_at_call 72; (with_reducible refine (impl_isDigit.calls a0 true _ A4.out).mono ?_); rintro e w' ⟨rfl, ⟨nd, rfl⟩⟩))
   go_ret
   exact zs1
  ·replace c5 := Bool.eq_false_iff.mpr c5
   subst c5
   have H1 : (some (a0 == 45)) = some r := by rw [if_neg (show ¬ (false = true) by decide)] at H; exact H
   clear H
   have H := H1
   clear H1
   obtain rfl := Option.some.inj H
   go_enter Tryz.func115, Tryz.ntmps115
   go_wp2_with (first | ((with_reducible refine gate_callee (f := 116) rfl ?_); refine goesL_ (some 4) rfl rfl Tryz.func116 zb6 rfl #[.int .u8 a0] rfl zb1 ?_; (with_reducible refine (impl_isLetter.calls a0 false _ A2.out).mono ?_); rintro e w' ⟨rfl, ⟨nd, rfl⟩⟩; refine ⟨_, rfl, ?_⟩) | (go_at_call 72; (with_reducible refine (impl_isDigit.calls a0 false _ A4.out).mono ?_); rintro e w' ⟨rfl, ⟨nd, rfl⟩⟩))
   go_ret
   exact zs1
def impl_all__impl_VersionOk_1.l0 : Nat → ByteArray → Int → Int → Option (Bool)
 | 0, _, _, _ => none
 | k + 1, x0, x7, x8 => if x8 < x7 then (if 0 ≤ x8 then (if x8 < (x0.size : Int) then ((impl_VersionOk_1.f (bt x0 x8)).bind fun t233 => (if t233 = true then (impl_all__impl_VersionOk_1.l0 k x0 x7 (wrap64 (x8 + 1))) else (some false))) else (none)) else (none)) else (some true)
def impl_all__impl_VersionOk_1.f (k : Nat) (a0 : ByteArray)  : Option (Bool) := impl_all__impl_VersionOk_1.l0 k a0 (a0.size : Int) 0
set_option maxHeartbeats 8000000 in
set_option maxRecDepth 100000 in
theorem impl_all__impl_VersionOk_1.calls (k : Nat) (a0 : ByteArray)  (r : Bool) (w : World) (h : impl_all__impl_VersionOk_1.f k a0 = some r) :
  Calls Tryz.prog 69 #[.string a0, (.func (.func 115) #[] #[])] w fun e w' => e = .returned (.bool r) ∧ Drawn0 w w' := by
 have H : (impl_all__impl_VersionOk_1.l0 k a0 (a0.size : Int) 0) = some r := h
 clear h
 have H' := Aside0.mk H
 clear H
 go_enter Tryz.func69, Tryz.ntmps69
 go_wp2
 go_loopg [8] k (fun kq v8 w' => ∃ (x8_1 : Int), v8 = .int .i64 x8_1 ∧ Aside0 (impl_all__impl_VersionOk_1.l0 kq a0 (a0.size : Int) x8_1 = some r) ∧ Aside0 (kq ≤ k) ∧ Drawn0 w w')
 case atStart => exact ⟨(0), zb5, H', ⟨Nat.le_refl _⟩, by repeat (first | exact Drawn0.refl _ | apply Drawn0.step)⟩
 case round =>
  clear H'
  try clear p2
  obtain ⟨x8_1, rfl, HA, HK1, ⟨m1, rfl⟩⟩ := hrel
  cases gk with
  | zero => exact absurd HA.out (by simp [impl_all__impl_VersionOk_1.l0])
  | succ k1 =>
   have H := HA.out
   clear HA
   simp only [impl_all__impl_VersionOk_1.l0] at H
   by_cases c3 : x8_1 < (a0.size : Int)
   ·rw [if_pos c3] at H
    have c3b0 : decide (x8_1 < (a0.size : Int)) = true := decide_eq_true c3
    clear c3
    by_cases c4 : 0 ≤ x8_1
    ·rw [if_pos c4] at H
     have c4b0 : decide (0 ≤ x8_1) = true := decide_eq_true c4
     clear c4
     by_cases c5 : x8_1 < (a0.size : Int)
     ·rw [if_pos c5] at H
      have c5b0 : decide (x8_1 < (a0.size : Int)) = true := decide_eq_true c5
      clear c5
      replace H := Option.bind_eq_some_iff.mp H
      obtain ⟨t233, A70, H⟩ := H
      replace H : (if t233 = true then (impl_all__impl_VersionOk_1.l0 k1 a0 (a0.size : Int) (wrap64 (x8_1 + 1))) else (some false)) = some r := H
      have A7 := Aside0.mk A70
      clear A70
      by_cases c8 : t233 = true
      ·subst c8
       have H1 : (impl_all__impl_VersionOk_1.l0 k1 a0 (a0.size : Int) (wrap64 (x8_1 + 1))) = some r := by rw [if_pos rfl] at H; exact H
       clear H
       have H := H1
       clear H1
       have H' := Aside0.mk H
       clear H
       have p6 : 0 ≤ (x8_1 : Int) := of_decide_eq_true zb2
       have q6 : x8_1 < (a0.size : Int) := of_decide_eq_true zb2
       have hx6 := bt_at a0 x8_1
       replace p6 := eq_true p6
       replace q6 := eq_true q6
       go_wp2_with (first | (go_at_call 115; (with_reducible refine (impl_VersionOk_1.calls (bt a0 x8_1) true _ A7.out).mono ?_); rintro e w' ⟨rfl, ⟨nd, rfl⟩⟩))
       go_roundg k1
       case measure => have := HK1.out; omega
       case rel => exact ⟨(wrap64 (x8_1 + 1)), zb5, H', ⟨by have := HK1.out; omega⟩, by repeat (first | exact Drawn0.refl _ | apply Drawn0.step)⟩
      ·replace c8 := Bool.eq_false_iff.mpr c8
       subst c8
       have H1 : (some false) = some r := by rw [if_neg (show ¬ (false = true) by decide)] at H; exact H
       clear H
       have H := H1
       clear H1
       obtain rfl := Option.some.inj H
       have p6 : 0 ≤ (x8_1 : Int) := of_decide_eq_true zb2
       have q6 : x8_1 < (a0.size : Int) := of_decide_eq_true zb2
       have hx6 := bt_at a0 x8_1
       replace p6 := eq_true p6
       replace q6 := eq_true q6
       go_wp2_with (first | (go_at_call 115; (with_reducible refine (impl_VersionOk_1.calls (bt a0 x8_1) false _ A7.out).mono ?_); rintro e w' ⟨rfl, ⟨nd, rfl⟩⟩))
       go_ret
       exact zs1
     ·rw [if_neg c5] at H
      exact absurd H (by simp)
    ·rw [if_neg c4] at H
     exact absurd H (by simp)
   ·rw [if_neg c3] at H
    have c3b0 : decide (x8_1 < (a0.size : Int)) = false := decide_eq_false c3
    clear c3
    obtain rfl := Option.some.inj H
    go_wp2
    go_ret
    exact zs1
mutual
def impl_VersionOk.l0 : Nat → List Int → Int → Int → Int → Int → Int → List ByteArray → Option (Bool)
 | 0, _, _, _, _, _, _, _ => none
 | k + 1, x13, x14, x15, x235000, x235001, x235002, x235003 => if x15 < x14 then (if 0 ≤ x15 then (if x15 < (x13.length : Int) then ((impl_within.f (rd x13 x15) 0 999999999).bind fun t239 => (if t239 = true then (impl_VersionOk.l0 k x13 x14 (wrap64 (x15 + 1)) x235000 x235001 x235002 x235003) else (some false))) else (none)) else (none)) else (impl_VersionOk.l1 k x235003 (x235003.length : Int) 0 x235000 x235001 x235002 x235003)
def impl_VersionOk.l1 : Nat → List ByteArray → Int → Int → Int → Int → Int → List ByteArray → Option (Bool)
 | 0, _, _, _, _, _, _, _ => none
 | k + 1, x24, x25, x26, x235000, x235001, x235002, x235003 => if x26 < x25 then (if 0 ≤ x26 then (if x26 < (x24.length : Int) then ((impl_within.f ((rdOf ByteArray.empty x24 x26).size : Int) 1 20).bind fun t241 => (if t241 = true then ((impl_all__impl_VersionOk_1.f k (rdOf ByteArray.empty x24 x26)).bind fun t242 => (if t242 = true then ((impl_isNumber.f k (rdOf ByteArray.empty x24 x26)).bind fun t243 => (if t243 = true then ((impl_ReadDec.f (rdOf ByteArray.empty x24 x26)).bind fun t244 => (if t244 < 0 then (some false) else (impl_VersionOk.l1 k x24 x25 (wrap64 (x26 + 1)) x235000 x235001 x235002 x235003))) else (impl_VersionOk.l1 k x24 x25 (wrap64 (x26 + 1)) x235000 x235001 x235002 x235003))) else (some false))) else (some false))) else (none)) else (none)) else (some (decide ((x235003.length : Int) ≤ 5)))
end
def impl_VersionOk.f (k : Nat) (a0_0 : Int) (a0_1 : Int) (a0_2 : Int) (l0_3 : List ByteArray) : Option (Bool) := (some (([a0_0, a0_1, a0_2] : List Int) : List Int)).bind fun y235 => (impl_VersionOk.l0 k y235 (y235.length : Int) 0 a0_0 a0_1 a0_2 l0_3)
set_option maxHeartbeats 8000000 in
set_option maxRecDepth 100000 in
theorem impl_VersionOk.calls (k : Nat) (a0_0 : Int) (a0_1 : Int) (a0_2 : Int) (A0_3 : Option Addr) (c0_3 : Nat) (l0_3 : List ByteArray) (r : Bool) (w : World) (hr0_3 : Kd.C Kd.string w A0_3 l0_3.length l0_3) (hc0_3 : l0_3.length ≤ c0_3) (hGE : Glob FactE w) (hGT : Glob FactT w) (h : impl_VersionOk.f k a0_0 a0_1 a0_2 l0_3 = some r) :
  Calls Tryz.prog 87 #[.agg #[.int .i64 a0_0, .int .i64 a0_1, .int .i64 a0_2, .slice A0_3 l0_3.length c0_3]] w fun e w' => e = .returned (.bool r) ∧ Below w.heap.size w w' := by
 have hu50 := Tryz.underlying50
 have HR0_3 := Aside0.mk hr0_3
 have HC0_3 := Aside0.mk hc0_3
 clear hr0_3 hc0_3
 have HB := Aside0.mk (Below.refl w.heap.size w)
 have HGE := Aside0.mk hGE
 clear hGE
 have HGT := Aside0.mk hGT
 clear hGT
 have H : ((some (([a0_0, a0_1, a0_2] : List Int) : List Int)).bind fun y235 => (impl_VersionOk.l0 k y235 (y235.length : Int) 0 a0_0 a0_1 a0_2 l0_3)) = some r := h
 clear h
 obtain ⟨y235, hy235⟩ : ∃ y_ : List Int, y_ = (([a0_0, a0_1, a0_2] : List Int)) := ⟨_, rfl⟩
 replace H : (impl_VersionOk.l0 k y235 (y235.length : Int) 0 a0_0 a0_1 a0_2 l0_3) = some r := by first | (rw [hy235]; with_reducible exact H) | (have H2_ := (Option.bind_some _ _).symm.trans H; rw [hy235]; with_reducible exact H2_) | (have H2_ := (Option.bind_some _ _).symm.trans H; with_reducible exact H2_) | with_reducible exact H | (rw [hy235]; exact H) | exact H
 have Ny235 := Aside0.mk hy235
 clear hy235
 have H' := Aside0.mk H
 clear H
 go_enter Tryz.func87, Tryz.ntmps87
 go_wp2_with (first | ((with_reducible refine gate_dst (N := 1) rfl ?_); refine box_event ?hg (N := 1) ?hd (cs := #[.int .i64 a0_0, .int .i64 a0_1, .int .i64 a0_2, .slice A0_3 l0_3.length c0_3]) (t := 50) ?hr ?_; (case hd => rfl); (case hg => rfl); (case hr => first | (go_simp; done) | (go_simp; rfl)); intro gb234 hg w2 hbox hb; have n0_ := Aside0.mk (below_step zb0 hb); have n1_ := Aside0.mk (hbox); have n2_ := Aside0.mk ((by rw [hg]; exact (below_size zb0) : w.heap.size ≤ gb234)); have n3_ := Aside0.mk ((by rw [hg]; exact (below_size zb0) : w.heap.size ≤ gb234)); clear HB; have HB := n0_; have BK234 := n1_; have GW234 := n2_; have GE234 := n3_; clear n0_ n1_ n2_ n3_; clear hb hbox hg; obtain ⟨hcz3_0, hcz3_1, hcz3_2, hcz3_3, hfz3_0, hfz3_1, hfz3_2, hfz3_3⟩ := blk_4 BK234.out) | ((with_reducible refine gate_dst (N := 13) rfl ?_); refine Kd.R_lit (Kd.int .i64) _ 3 ?hg (N := 13) ?hd (xs := ([a0_0, a0_1, a0_2] : List Int)) (inner := [.int .i64 a0_0, .int .i64 a0_1, .int .i64 a0_2]) (ok := fun _ => True) (okp := fun _ => True) ?hr ?hp (fun _ hk => hk) trivial (Below.refl _ _) (Nat.le_refl _) (by simp) ?_; (case hd => rfl); (case hg => rfl); (case hr => first | (go_simp; done) | (go_simp; rfl)); (case hp => exact (Reps.one (show Kd.M (Kd.int .i64) _ _ _ a0_0 [.int .i64 a0_0] from rfl) (Reps.one (show Kd.M (Kd.int .i64) _ _ _ a0_1 [.int .i64 a0_1] from rfl) (Reps.one (show Kd.M (Kd.int .i64) _ _ _ a0_2 [.int .i64 a0_2] from rfl) (Reps.none _ _))))); intro v236 w4 ho5 hb hg_ hnew_; clear hg_ hnew_; (first | rw [← Ny235.out] at ho5 | (simp only [Int.reduceToNat] at ho5; rw [← Ny235.out] at ho5)); have n0_ := Aside0.mk (Kd.R_lower ho5 (below_size (by repeat (first | (with_reducible first | exact HB.out | apply below_alloc | apply pw_below_drewN | apply below_drew1 | refine below_set ?_ GE234.out) | exact HB.out)))); have n1_ := Aside0.mk (blk_below (g := gb234) (o := .cells #[.int .i64 a0_0, .int .i64 a0_1, .int .i64 a0_2, .slice A0_3 l0_3.length c0_3] 50 (0, 0)) (by (with_reducible repeat (first | refine bN_ ?_ _ | refine bD_ ?_ | refine bA_ ?_ _)); exact BK234.out) hb); have n2_ := Aside0.mk (below_step (by repeat (first | (with_reducible first | exact HB.out | apply below_alloc | apply pw_below_drewN | apply below_drew1 | refine below_set ?_ GE234.out) | exact HB.out)) hb); clear BK234; clear HB; have HO237 := n0_; have BK234 := n1_; have HB := n2_; clear n0_ n1_ n2_; clear hb ho5; obtain ⟨Ao6, co6, eo6⟩ := Kd.R_slice HO237.out; subst eo6))
 go_loopg [15] k (fun kq v15 w' => ∃ (x15_1 : Int), v15 = .int .i64 x15_1 ∧ Aside0 (impl_VersionOk.l0 kq y235 (y235.length : Int) x15_1 a0_0 a0_1 a0_2 l0_3 = some r) ∧ Aside0 (kq ≤ k) ∧ Aside0 (Kd.R (Kd.int .i64) 3 w' w.heap.size (fun _ => True) (.slice Ao6 y235.length co6) y235) ∧ Aside0 (w'.heap[gb234]? = some (.cells #[.int .i64 a0_0, .int .i64 a0_1, .int .i64 a0_2, (.slice A0_3 l0_3.length c0_3)] 50 (0, 0))) ∧ Aside0 (Below w.heap.size w w'))
 case atStart => exact ⟨(0), zb5, H', ⟨Nat.le_refl _⟩, ⟨by (with_reducible repeat (first | apply Kd.R_alloc | apply Kd.R_drewN | apply Kd.R_drew)); exact HO237.out⟩, ⟨by (with_reducible repeat (first | refine bN_ ?_ _ | refine bD_ ?_ | refine bA_ ?_ _)); exact BK234.out⟩, ⟨by repeat (first | (with_reducible first | exact HB.out | apply below_alloc | apply pw_below_drewN | apply below_drew1 | refine below_set ?_ GE234.out) | exact HB.out)⟩⟩
 case round =>
  clear H'
  try clear p2
  try clear hcz3_0
  try clear hcz3_1
  try clear hcz3_2
  try clear hcz3_3
  try clear hfz3_0
  try clear hfz3_1
  try clear hfz3_2
  try clear hfz3_3
  obtain ⟨x15_1, rfl, HA, HK1, HO_13, BK234, HB⟩ := hrel
  cases gk with
  | zero => exact absurd HA.out (by simp [impl_VersionOk.l0])
  | succ k1 =>
   have H := HA.out
   clear HA
   simp only [impl_VersionOk.l0] at H
   by_cases c7 : x15_1 < (y235.length : Int)
   ·rw [if_pos c7] at H
    have c7b0 : decide (x15_1 < (y235.length : Int)) = true := decide_eq_true c7
    clear c7
    by_cases c8 : 0 ≤ x15_1
    ·rw [if_pos c8] at H
     have c8b0 : decide (0 ≤ x15_1) = true := decide_eq_true c8
     clear c8
     by_cases c9 : x15_1 < (y235.length : Int)
     ·rw [if_pos c9] at H
      have c9b0 : decide (x15_1 < (y235.length : Int)) = true := decide_eq_true c9
      clear c9
      replace H := Option.bind_eq_some_iff.mp H
      obtain ⟨t239, A100, H⟩ := H
      replace H : (if t239 = true then (impl_VersionOk.l0 k1 y235 (y235.length : Int) (wrap64 (x15_1 + 1)) a0_0 a0_1 a0_2 l0_3) else (some false)) = some r := H
      have A10 := Aside0.mk A100
      clear A100
      by_cases c11 : t239 = true
      ·subst c11
       have H1 : (impl_VersionOk.l0 k1 y235 (y235.length : Int) (wrap64 (x15_1 + 1)) a0_0 a0_1 a0_2 l0_3) = some r := by rw [if_pos rfl] at H; exact H
       clear H
       have H := H1
       clear H1
       have H' := Aside0.mk H
       clear H
       have p238 : 0 ≤ (x15_1 : Int) := of_decide_eq_true zb2
       have q238 : x15_1 < (y235.length : Int) := of_decide_eq_true zb2
       obtain ⟨ad238, e238, hx238_0⟩ := Kd.at_int (Kd.R_reads' HO_13.out).2.2 x15_1 p238 q238
       cases e238
       replace p238 := eq_true p238
       replace q238 := eq_true q238
       go_wp2_with (first | ((with_reducible refine gate_callee (f := 61) rfl ?_); refine goesL_ (some 20) rfl rfl Tryz.func61 zb6 rfl #[.int .i64 (rd y235 x15_1), .int .i64 0, .int .i64 999999999] rfl zb1 ?_; (with_reducible refine (impl_within.calls (rd y235 x15_1) 0 999999999 true _ A10.out).mono ?_); rintro e w' ⟨rfl, ⟨nd, rfl⟩⟩; refine ⟨_, rfl, ?_⟩))
       go_roundg k1
       case measure => have := HK1.out; omega
       case rel => exact ⟨(wrap64 (x15_1 + 1)), zb5, H', ⟨by have := HK1.out; omega⟩, ⟨by (with_reducible repeat (first | apply Kd.R_alloc | apply Kd.R_drewN | apply Kd.R_drew)); exact HO_13.out⟩, ⟨by (with_reducible repeat (first | refine bN_ ?_ _ | refine bD_ ?_ | refine bA_ ?_ _)); exact BK234.out⟩, ⟨by repeat (first | (with_reducible first | exact HB.out | apply below_alloc | apply pw_below_drewN | apply below_drew1 | refine below_set ?_ GE234.out) | exact HB.out)⟩⟩
      ·replace c11 := Bool.eq_false_iff.mpr c11
       subst c11
       have H1 : (some false) = some r := by rw [if_neg (show ¬ (false = true) by decide)] at H; exact H
       clear H
       have H := H1
       clear H1
       obtain rfl := Option.some.inj H
       have p238 : 0 ≤ (x15_1 : Int) := of_decide_eq_true zb2
       have q238 : x15_1 < (y235.length : Int) := of_decide_eq_true zb2
       obtain ⟨ad238, e238, hx238_0⟩ := Kd.at_int (Kd.R_reads' HO_13.out).2.2 x15_1 p238 q238
       cases e238
       replace p238 := eq_true p238
       replace q238 := eq_true q238
       go_wp2_with (first | ((with_reducible refine gate_callee (f := 61) rfl ?_); refine goesL_ (some 20) rfl rfl Tryz.func61 zb6 rfl #[.int .i64 (rd y235 x15_1), .int .i64 0, .int .i64 999999999] rfl zb1 ?_; (with_reducible refine (impl_within.calls (rd y235 x15_1) 0 999999999 false _ A10.out).mono ?_); rintro e w' ⟨rfl, ⟨nd, rfl⟩⟩; refine ⟨_, rfl, ?_⟩))
       go_ret
       exact ⟨zb3, by repeat (first | (with_reducible first | exact HB.out | apply below_alloc | apply pw_below_drewN | apply below_drew1 | refine below_set ?_ GE234.out) | exact HB.out)⟩
     ·rw [if_neg c9] at H
      exact absurd H (by simp)
    ·rw [if_neg c8] at H
     exact absurd H (by simp)
   ·rw [if_neg c7] at H
    have c7b0 : decide (x15_1 < (y235.length : Int)) = false := decide_eq_false c7
    clear c7
    have H' := Aside0.mk H
    clear H
    obtain ⟨hcz12_0, hcz12_1, hcz12_2, hcz12_3, hfz12_0, hfz12_1, hfz12_2, hfz12_3⟩ := blk_4 BK234.out
    go_wp2
    go_loopg [26] k1 (fun kq v26 w' => ∃ (x26_2 : Int), v26 = .int .i64 x26_2 ∧ Aside0 (impl_VersionOk.l1 kq l0_3 (l0_3.length : Int) x26_2 a0_0 a0_1 a0_2 l0_3 = some r) ∧ Aside0 (kq ≤ k1) ∧ Aside0 (w'.heap[gb234]? = some (.cells #[.int .i64 a0_0, .int .i64 a0_1, .int .i64 a0_2, (.slice A0_3 l0_3.length c0_3)] 50 (0, 0))) ∧ Aside0 (Below w.heap.size w w'))
    case atStart => exact ⟨(0), zb5, H', ⟨Nat.le_refl _⟩, ⟨by (with_reducible repeat (first | refine bN_ ?_ _ | refine bD_ ?_ | refine bA_ ?_ _)); exact BK234.out⟩, ⟨by repeat (first | (with_reducible first | exact HB.out | apply below_alloc | apply pw_below_drewN | apply below_drew1 | refine below_set ?_ GE234.out) | exact HB.out)⟩⟩
    case round =>
     clear H'
     try clear c1
     try clear p2
     try clear q2
     try clear hx2
     try clear c6
     try clear p6
     try clear c7
     try clear c7b0
     try clear c8
     try clear c8b0
     try clear c9
     try clear c9b0
     try clear c11
     try clear hcz12_0
     try clear hcz12_1
     try clear hcz12_2
     try clear hcz12_3
     try clear hcz3_0
     try clear hcz3_1
     try clear hcz3_2
     try clear hcz3_3
     try clear hfz12_0
     try clear hfz12_1
     try clear hfz12_2
     try clear hfz12_3
     try clear hfz3_0
     try clear hfz3_1
     try clear hfz3_2
     try clear hfz3_3
     try clear hx238_0
     try clear p2
     try clear p238
     try clear q238
     obtain ⟨x26_2, rfl, HA, HK2, BK234, HB⟩ := hrel
     cases gk with
     | zero => exact absurd HA.out (by simp [impl_VersionOk.l1])
     | succ k2 =>
      have H := HA.out
      clear HA
      simp only [impl_VersionOk.l1] at H
      by_cases c13 : x26_2 < (l0_3.length : Int)
      ·rw [if_pos c13] at H
       have c13b0 : decide (x26_2 < (l0_3.length : Int)) = true := decide_eq_true c13
       clear c13
       by_cases c14 : 0 ≤ x26_2
       ·rw [if_pos c14] at H
        have c14b0 : decide (0 ≤ x26_2) = true := decide_eq_true c14
        clear c14
        by_cases c15 : x26_2 < (l0_3.length : Int)
        ·rw [if_pos c15] at H
         have c15b0 : decide (x26_2 < (l0_3.length : Int)) = true := decide_eq_true c15
         clear c15
         replace H := Option.bind_eq_some_iff.mp H
         obtain ⟨t241, A160, H⟩ := H
         replace H : (if t241 = true then ((impl_all__impl_VersionOk_1.f k2 (rdOf ByteArray.empty l0_3 x26_2)).bind fun t242 => (if t242 = true then ((impl_isNumber.f k2 (rdOf ByteArray.empty l0_3 x26_2)).bind fun t243 => (if t243 = true then ((impl_ReadDec.f (rdOf ByteArray.empty l0_3 x26_2)).bind fun t244 => (if t244 < 0 then (some false) else (impl_VersionOk.l1 k2 l0_3 (l0_3.length : Int) (wrap64 (x26_2 + 1)) a0_0 a0_1 a0_2 l0_3))) else (impl_VersionOk.l1 k2 l0_3 (l0_3.length : Int) (wrap64 (x26_2 + 1)) a0_0 a0_1 a0_2 l0_3))) else (some false))) else (some false)) = some r := H
         have A16 := Aside0.mk A160
         clear A160
         by_cases c17 : t241 = true
         ·subst c17
          have H1 : ((impl_all__impl_VersionOk_1.f k2 (rdOf ByteArray.empty l0_3 x26_2)).bind fun t242 => (if t242 = true then ((impl_isNumber.f k2 (rdOf ByteArray.empty l0_3 x26_2)).bind fun t243 => (if t243 = true then ((impl_ReadDec.f (rdOf ByteArray.empty l0_3 x26_2)).bind fun t244 => (if t244 < 0 then (some false) else (impl_VersionOk.l1 k2 l0_3 (l0_3.length : Int) (wrap64 (x26_2 + 1)) a0_0 a0_1 a0_2 l0_3))) else (impl_VersionOk.l1 k2 l0_3 (l0_3.length : Int) (wrap64 (x26_2 + 1)) a0_0 a0_1 a0_2 l0_3))) else (some false))) = some r := by rw [if_pos rfl] at H; exact H
          clear H
          have H := H1
          clear H1
          replace H := Option.bind_eq_some_iff.mp H
          obtain ⟨t242, A180, H⟩ := H
          replace H : (if t242 = true then ((impl_isNumber.f k2 (rdOf ByteArray.empty l0_3 x26_2)).bind fun t243 => (if t243 = true then ((impl_ReadDec.f (rdOf ByteArray.empty l0_3 x26_2)).bind fun t244 => (if t244 < 0 then (some false) else (impl_VersionOk.l1 k2 l0_3 (l0_3.length : Int) (wrap64 (x26_2 + 1)) a0_0 a0_1 a0_2 l0_3))) else (impl_VersionOk.l1 k2 l0_3 (l0_3.length : Int) (wrap64 (x26_2 + 1)) a0_0 a0_1 a0_2 l0_3))) else (some false)) = some r := H
          have A18 := Aside0.mk A180
          clear A180
          by_cases c19 : t242 = true
          ·subst c19
           have H1 : ((impl_isNumber.f k2 (rdOf ByteArray.empty l0_3 x26_2)).bind fun t243 => (if t243 = true then ((impl_ReadDec.f (rdOf ByteArray.empty l0_3 x26_2)).bind fun t244 => (if t244 < 0 then (some false) else (impl_VersionOk.l1 k2 l0_3 (l0_3.length : Int) (wrap64 (x26_2 + 1)) a0_0 a0_1 a0_2 l0_3))) else (impl_VersionOk.l1 k2 l0_3 (l0_3.length : Int) (wrap64 (x26_2 + 1)) a0_0 a0_1 a0_2 l0_3))) = some r := by rw [if_pos rfl] at H; exact H
           clear H
           have H := H1
           clear H1
           replace H := Option.bind_eq_some_iff.mp H
           obtain ⟨t243, A200, H⟩ := H
           replace H : (if t243 = true then ((impl_ReadDec.f (rdOf ByteArray.empty l0_3 x26_2)).bind fun t244 => (if t244 < 0 then (some false) else (impl_VersionOk.l1 k2 l0_3 (l0_3.length : Int) (wrap64 (x26_2 + 1)) a0_0 a0_1 a0_2 l0_3))) else (impl_VersionOk.l1 k2 l0_3 (l0_3.length : Int) (wrap64 (x26_2 + 1)) a0_0 a0_1 a0_2 l0_3)) = some r := H
           have A20 := Aside0.mk A200
           clear A200
           by_cases c21 : t243 = true
           ·subst c21
            have H1 : ((impl_ReadDec.f (rdOf ByteArray.empty l0_3 x26_2)).bind fun t244 => (if t244 < 0 then (some false) else (impl_VersionOk.l1 k2 l0_3 (l0_3.length : Int) (wrap64 (x26_2 + 1)) a0_0 a0_1 a0_2 l0_3))) = some r := by rw [if_pos rfl] at H; exact H
            clear H
            have H := H1
            clear H1
            replace H := Option.bind_eq_some_iff.mp H
            obtain ⟨t244, A220, H⟩ := H
            replace H : (if t244 < 0 then (some false) else (impl_VersionOk.l1 k2 l0_3 (l0_3.length : Int) (wrap64 (x26_2 + 1)) a0_0 a0_1 a0_2 l0_3)) = some r := H
            have A22 := Aside0.mk A220
            clear A220
            by_cases c23 : t244 < 0
            ·rw [if_pos c23] at H
             have c23b0 : decide (t244 < 0) = true := decide_eq_true c23
             clear c23
             obtain rfl := Option.some.inj H
             have p240 : 0 ≤ (x26_2 : Int) := of_decide_eq_true zb2
             have q240 : x26_2 < (l0_3.length : Int) := of_decide_eq_true zb2
             obtain ⟨ad240, e240, hx240_0⟩ := Kd.at_string HR0_3.out x26_2 p240 q240
             cases e240
             replace hx240_0 := (HB.out.cell (World.block_lt_of_cell? w _ hx240_0)).trans hx240_0
             replace p240 := eq_true p240
             replace q240 := eq_true q240
             go_wp2_with (first | ((with_reducible refine gate_callee (f := 61) rfl ?_); refine goesL_ (some 32) rfl rfl Tryz.func61 zb6 rfl #[.int .i64 ((rdOf ByteArray.empty l0_3 x26_2).size : Int), .int .i64 1, .int .i64 20] rfl zb1 ?_; (with_reducible refine (impl_within.calls ((rdOf ByteArray.empty l0_3 x26_2).size : Int) 1 20 true _ A16.out).mono ?_); rintro e w' ⟨rfl, ⟨nd, rfl⟩⟩; refine ⟨_, rfl, ?_⟩) | (go_at_call 69; (with_reducible refine (impl_all__impl_VersionOk_1.calls k2 (rdOf ByteArray.empty l0_3 x26_2) true _ A18.out).mono ?_); rintro e w' ⟨rfl, ⟨nd, rfl⟩⟩) | (go_at_call 117; (with_reducible refine (impl_isNumber.calls k2 (rdOf ByteArray.empty l0_3 x26_2) true _ A20.out).mono ?_); rintro e w' ⟨rfl, ⟨nd, rfl⟩⟩) | (go_at_call 59; (with_reducible refine (impl_ReadDec.calls (rdOf ByteArray.empty l0_3 x26_2) t244 _ ?side1 ?side2 A22.out).mono ?_); (case side1 => exact Glob.below HGE.out (by repeat (first | (with_reducible first | exact HB.out | apply below_alloc | apply pw_below_drewN | apply below_drew1 | refine below_set ?_ GE234.out) | exact HB.out))); (case side2 => exact Glob.below HGT.out (by repeat (first | (with_reducible first | exact HB.out | apply below_alloc | apply pw_below_drewN | apply below_drew1 | refine below_set ?_ GE234.out) | exact HB.out))); rintro e w24 ⟨rfl, hb⟩; have n0_ := Aside0.mk (blk_below (g := gb234) (o := .cells #[.int .i64 a0_0, .int .i64 a0_1, .int .i64 a0_2, .slice (some ad240) l0_3.length c0_3] 50 (0, 0)) (by (with_reducible repeat (first | refine bN_ ?_ _ | refine bD_ ?_ | refine bA_ ?_ _)); exact BK234.out) hb); have n1_ := Aside0.mk (below_step (by repeat (first | (with_reducible first | exact HB.out | apply below_alloc | apply pw_below_drewN | apply below_drew1 | refine below_set ?_ GE234.out) | exact HB.out)) hb); clear BK234; clear HB; have BK234 := n0_; have HB := n1_; clear n0_ n1_; (try clear hb)))
             go_ret
             exact ⟨zb3, by repeat (first | (with_reducible first | exact HB.out | apply below_alloc | apply pw_below_drewN | apply below_drew1 | refine below_set ?_ GE234.out) | exact HB.out)⟩
            ·rw [if_neg c23] at H
             have c23b0 : decide (t244 < 0) = false := decide_eq_false c23
             clear c23
             have H' := Aside0.mk H
             clear H
             have p240 : 0 ≤ (x26_2 : Int) := of_decide_eq_true zb2
             have q240 : x26_2 < (l0_3.length : Int) := of_decide_eq_true zb2
             obtain ⟨ad240, e240, hx240_0⟩ := Kd.at_string HR0_3.out x26_2 p240 q240
             cases e240
             replace hx240_0 := (HB.out.cell (World.block_lt_of_cell? w _ hx240_0)).trans hx240_0
             replace p240 := eq_true p240
             replace q240 := eq_true q240
             go_wp2_with (first | ((with_reducible refine gate_callee (f := 61) rfl ?_); refine goesL_ (some 32) rfl rfl Tryz.func61 zb6 rfl #[.int .i64 ((rdOf ByteArray.empty l0_3 x26_2).size : Int), .int .i64 1, .int .i64 20] rfl zb1 ?_; (with_reducible refine (impl_within.calls ((rdOf ByteArray.empty l0_3 x26_2).size : Int) 1 20 true _ A16.out).mono ?_); rintro e w' ⟨rfl, ⟨nd, rfl⟩⟩; refine ⟨_, rfl, ?_⟩) | (go_at_call 69; (with_reducible refine (impl_all__impl_VersionOk_1.calls k2 (rdOf ByteArray.empty l0_3 x26_2) true _ A18.out).mono ?_); rintro e w' ⟨rfl, ⟨nd, rfl⟩⟩) | (go_at_call 117; (with_reducible refine (impl_isNumber.calls k2 (rdOf ByteArray.empty l0_3 x26_2) true _ A20.out).mono ?_); rintro e w' ⟨rfl, ⟨nd, rfl⟩⟩) | (go_at_call 59; (with_reducible refine (impl_ReadDec.calls (rdOf ByteArray.empty l0_3 x26_2) t244 _ ?side1 ?side2 A22.out).mono ?_); (case side1 => exact Glob.below HGE.out (by repeat (first | (with_reducible first | exact HB.out | apply below_alloc | apply pw_below_drewN | apply below_drew1 | refine below_set ?_ GE234.out) | exact HB.out))); (case side2 => exact Glob.below HGT.out (by repeat (first | (with_reducible first | exact HB.out | apply below_alloc | apply pw_below_drewN | apply below_drew1 | refine below_set ?_ GE234.out) | exact HB.out))); rintro e w25 ⟨rfl, hb⟩; have n0_ := Aside0.mk (blk_below (g := gb234) (o := .cells #[.int .i64 a0_0, .int .i64 a0_1, .int .i64 a0_2, .slice (some ad240) l0_3.length c0_3] 50 (0, 0)) (by (with_reducible repeat (first | refine bN_ ?_ _ | refine bD_ ?_ | refine bA_ ?_ _)); exact BK234.out) hb); have n1_ := Aside0.mk (below_step (by repeat (first | (with_reducible first | exact HB.out | apply below_alloc | apply pw_below_drewN | apply below_drew1 | refine below_set ?_ GE234.out) | exact HB.out)) hb); clear BK234; clear HB; have BK234 := n0_; have HB := n1_; clear n0_ n1_; (try clear hb)))
             go_roundg k2
             case measure => have := HK1.out; have := HK2.out; omega
             case rel => exact ⟨(wrap64 (x26_2 + 1)), zb5, H', ⟨by have := HK1.out; have := HK2.out; omega⟩, ⟨by (with_reducible repeat (first | refine bN_ ?_ _ | refine bD_ ?_ | refine bA_ ?_ _)); exact BK234.out⟩, ⟨by repeat (first | (with_reducible first | exact HB.out | apply below_alloc | apply pw_below_drewN | apply below_drew1 | refine below_set ?_ GE234.out) | exact HB.out)⟩⟩
           ·replace c21 := Bool.eq_false_iff.mpr c21
            subst c21
            have H1 : (impl_VersionOk.l1 k2 l0_3 (l0_3.length : Int) (wrap64 (x26_2 + 1)) a0_0 a0_1 a0_2 l0_3) = some r := by rw [if_neg (show ¬ (false = true) by decide)] at H; exact H
            clear H
            have H := H1
            clear H1
            have H' := Aside0.mk H
            clear H
            have p240 : 0 ≤ (x26_2 : Int) := of_decide_eq_true zb2
            have q240 : x26_2 < (l0_3.length : Int) := of_decide_eq_true zb2
            obtain ⟨ad240, e240, hx240_0⟩ := Kd.at_string HR0_3.out x26_2 p240 q240
            cases e240
            replace hx240_0 := (HB.out.cell (World.block_lt_of_cell? w _ hx240_0)).trans hx240_0
            replace p240 := eq_true p240
            replace q240 := eq_true q240
            go_wp2_with (first | ((with_reducible refine gate_callee (f := 61) rfl ?_); refine goesL_ (some 32) rfl rfl Tryz.func61 zb6 rfl #[.int .i64 ((rdOf ByteArray.empty l0_3 x26_2).size : Int), .int .i64 1, .int .i64 20] rfl zb1 ?_; (with_reducible refine (impl_within.calls ((rdOf ByteArray.empty l0_3 x26_2).size : Int) 1 20 true _ A16.out).mono ?_); rintro e w' ⟨rfl, ⟨nd, rfl⟩⟩; refine ⟨_, rfl, ?_⟩) | (go_at_call 69; (with_reducible refine (impl_all__impl_VersionOk_1.calls k2 (rdOf ByteArray.empty l0_3 x26_2) true _ A18.out).mono ?_); rintro e w' ⟨rfl, ⟨nd, rfl⟩⟩) | (go_at_call 117; (with_reducible refine (impl_isNumber.calls k2 (rdOf ByteArray.empty l0_3 x26_2) false _ A20.out).mono ?_); rintro e w' ⟨rfl, ⟨nd, rfl⟩⟩))
            go_roundg k2
            case measure => have := HK1.out; have := HK2.out; omega
            case rel => exact ⟨(wrap64 (x26_2 + 1)), zb5, H', ⟨by have := HK1.out; have := HK2.out; omega⟩, ⟨by (with_reducible repeat (first | refine bN_ ?_ _ | refine bD_ ?_ | refine bA_ ?_ _)); exact BK234.out⟩, ⟨by repeat (first | (with_reducible first | exact HB.out | apply below_alloc | apply pw_below_drewN | apply below_drew1 | refine below_set ?_ GE234.out) | exact HB.out)⟩⟩
          ·replace c19 := Bool.eq_false_iff.mpr c19
           subst c19
           have H1 : (some false) = some r := by rw [if_neg (show ¬ (false = true) by decide)] at H; exact H
           clear H
           have H := H1
           clear H1
           obtain rfl := Option.some.inj H
           have p240 : 0 ≤ (x26_2 : Int) := of_decide_eq_true zb2
           have q240 : x26_2 < (l0_3.length : Int) := of_decide_eq_true zb2
           obtain ⟨ad240, e240, hx240_0⟩ := Kd.at_string HR0_3.out x26_2 p240 q240
           cases e240
           replace hx240_0 := (HB.out.cell (World.block_lt_of_cell? w _ hx240_0)).trans hx240_0
           replace p240 := eq_true p240
           replace q240 := eq_true q240
           go_wp2_with (first | ((with_reducible refine gate_callee (f := 61) rfl ?_); refine goesL_ (some 32) rfl rfl Tryz.func61 zb6 rfl #[.int .i64 ((rdOf ByteArray.empty l0_3 x26_2).size : Int), .int .i64 1, .int .i64 20] rfl zb1 ?_; (with_reducible refine (impl_within.calls ((rdOf ByteArray.empty l0_3 x26_2).size : Int) 1 20 true _ A16.out).mono ?_); rintro e w' ⟨rfl, ⟨nd, rfl⟩⟩; refine ⟨_, rfl, ?_⟩) | (go_at_call 69; (with_reducible refine (impl_all__impl_VersionOk_1.calls k2 (rdOf ByteArray.empty l0_3 x26_2) false _ A18.out).mono ?_); rintro e w' ⟨rfl, ⟨nd, rfl⟩⟩))
           go_ret
           exact ⟨zb3, by repeat (first | (with_reducible first | exact HB.out | apply below_alloc | apply pw_below_drewN | apply below_drew1 | refine below_set ?_ GE234.out) | exact HB.out)⟩
         ·replace c17 := Bool.eq_false_iff.mpr c17
          subst c17
          have H1 : (some false) = some r := by rw [if_neg (show ¬ (false = true) by decide)] at H; exact H
          clear H
          have H := H1
          clear H1
          obtain rfl := Option.some.inj H
          have p240 : 0 ≤ (x26_2 : Int) := of_decide_eq_true zb2
          have q240 : x26_2 < (l0_3.length : Int) := of_decide_eq_true zb2
          obtain ⟨ad240, e240, hx240_0⟩ := Kd.at_string HR0_3.out x26_2 p240 q240
          cases e240
          replace hx240_0 := (HB.out.cell (World.block_lt_of_cell? w _ hx240_0)).trans hx240_0
          replace p240 := eq_true p240
          replace q240 := eq_true q240
          go_wp2_with (first | ((with_reducible refine gate_callee (f := 61) rfl ?_); refine goesL_ (some 32) rfl rfl Tryz.func61 zb6 rfl #[.int .i64 ((rdOf ByteArray.empty l0_3 x26_2).size : Int), .int .i64 1, .int .i64 20] rfl zb1 ?_; (with_reducible refine (impl_within.calls ((rdOf ByteArray.empty l0_3 x26_2).size : Int) 1 20 false _ A16.out).mono ?_); rintro e w' ⟨rfl, ⟨nd, rfl⟩⟩; refine ⟨_, rfl, ?_⟩))
          go_ret
          exact ⟨zb3, by repeat (first | (with_reducible first | exact HB.out | apply below_alloc | apply pw_below_drewN | apply below_drew1 | refine below_set ?_ GE234.out) | exact HB.out)⟩
        ·rw [if_neg c15] at H
         exact absurd H (by simp)
       ·rw [if_neg c14] at H
        exact absurd H (by simp)
      ·rw [if_neg c13] at H
       have c13b0 : decide (x26_2 < (l0_3.length : Int)) = false := decide_eq_false c13
       clear c13
       obtain rfl := Option.some.inj H
       obtain ⟨hcz26_0, hcz26_1, hcz26_2, hcz26_3, hfz26_0, hfz26_1, hfz26_2, hfz26_3⟩ := blk_4 BK234.out
       go_wp2
       go_ret
       exact ⟨zb3, by repeat (first | (with_reducible first | exact HB.out | apply below_alloc | apply pw_below_drewN | apply below_drew1 | refine below_set ?_ GE234.out) | exact HB.out)⟩
def strings_Join.f (l0 : List ByteArray) (a1 : ByteArray) : Option ByteArray := if l0.length ≤ 140737488355328 ∧ (Lib.join (l0.map (·.data.toList)) a1.data.toList).length ≤ 140737488355328 then some ⟨(Lib.join (l0.map (·.data.toList)) a1.data.toList).toArray⟩ else none
theorem strings_Join.calls (A0 : Option Addr) (c0 : Nat) (l0 : List ByteArray) (a1 : ByteArray) (r : ByteArray) (w : World) (hr0 : Kd.C Kd.string w A0 l0.length l0) (hc0 : l0.length ≤ c0) (h : strings_Join.f l0 a1 = some r) :
  Calls Tryz.prog 88 #[.slice A0 l0.length c0, .string a1] w fun e w' => e = .returned (.string r) ∧ Below w.heap.size w w' := by
 unfold strings_Join.f at h
 by_cases hc : l0.length ≤ 140737488355328 ∧ (Lib.join (l0.map (·.data.toList)) a1.data.toList).length ≤ 140737488355328
 ·rw [if_pos hc] at h
  obtain rfl := Option.some.inj h
  cases l0 with
  | nil => exact (Tryz.strings_Join_none A0 c0 a1 w).mono fun e w' ⟨h1, h2⟩ => ⟨h1, h2 ▸ Below.refl _ _⟩
  | cons x l =>
   obtain ⟨ad, rfl, hcell⟩ := hr0.2.2 (by simp)
   have cell : ∀ (j : Nat) y, (x :: l)[j]? = some y → w.cell? (ad.add (j * 1 + 0)) = some (.string y) := by
    intro j y hy
    obtain ⟨cs, _, hk, hi⟩ := hcell j y hy
    have hk' : cs = [.string y] := hk
    subst hk'
    exact hi 0 _ rfl
   obtain ⟨b, o, sp⟩ := ad
   have hsp : sp = none := Go.Proofs.cell_spot (cell 0 x rfl)
   subst hsp
   have e : ∀ j, (⟨b, o, none⟩ : Addr).add (j * 1 + 0) = ⟨b, o + j, none⟩ := fun j => by unfold Addr.add; simp
   refine (Tryz.strings_Join b o c0 (x :: l) a1 w (fun j y hy => by rw [← e j]; exact cell j y hy) (World.block_lt_of_cell? w ⟨b, o + 0, none⟩ (by rw [← e 0]; exact cell 0 x rfl)) hc.1 hc0 hc.2).mono fun e w' ⟨h1, h2⟩ => ⟨h1, h2⟩
 ·rw [if_neg hc] at h; cases h
def slices_Clone_string_string.f (l0 : List ByteArray) : Option (List ByteArray) := if l0.length * 16 ≤ 140737488355328 then some l0 else none
theorem slices_Clone_string_string.calls (A0 : Option Addr) (c0 : Nat) (l0 : List ByteArray) (r : List ByteArray) (w : World) (hr0 : Kd.C Kd.string w A0 l0.length l0) (hc0 : l0.length ≤ c0) (h : slices_Clone_string_string.f l0 = some r) :
  Calls Tryz.prog 95 #[.slice A0 l0.length c0] w fun e w' => ∃ v0_ : Value, e = .returned (v0_) ∧ Kd.R Kd.string 9 w' w.heap.size (fun _ => True) v0_ r ∧ Below w.heap.size w w' := by
 unfold slices_Clone_string_string.f at h
 by_cases hc : l0.length * 16 ≤ 140737488355328
 ·rw [if_pos hc] at h
  obtain rfl := Option.some.inj h
  cases l0 with
  | nil =>
   cases A0 with
   | none => exact (Tryz.slices_Clone_string_nil 0 c0 w).mono fun e w' ⟨h1, h2⟩ => ⟨_, h1, h2 ▸ Kd.R_nil _ _ _ _ _, h2 ▸ Below.refl _ _⟩
   | some a => exact (Tryz.slices_Clone_string_zero a c0 w).mono fun e w' ⟨v, h1, h2, _, h3⟩ => ⟨v, h1, Kd.R_of_own h2 (fun _ _ => trivial), h3⟩
  | cons x l =>
   obtain ⟨ad, rfl, hcell⟩ := hr0.2.2 (by simp)
   have cell : ∀ (j : Nat) y, (x :: l)[j]? = some y → w.cell? (ad.add (j * 1 + 0)) = some (.string y) := by
    intro j y hy
    obtain ⟨cs, _, hk, hi⟩ := hcell j y hy
    have hk' : cs = [.string y] := hk
    subst hk'
    exact hi 0 _ rfl
   obtain ⟨b, o, sp⟩ := ad
   have hsp : sp = none := Go.Proofs.cell_spot (cell 0 x rfl)
   subst hsp
   have e : ∀ j, (⟨b, o, none⟩ : Addr).add (j * 1 + 0) = ⟨b, o + j, none⟩ := fun j => by unfold Addr.add; simp
   refine (Tryz.slices_Clone_string b o (x :: l).length c0 (x :: l) w (Nat.le_refl _) hc (fun j hj => by rw [← e j]; refine cell j _ ?_; rw [List.getD_eq_getElem?_getD, List.getElem?_eq_getElem hj]; rfl)).mono fun e w' ⟨v, h1, h2, _, h3⟩ => ⟨v, h1, Kd.R_of_own ?_ (fun _ _ => trivial), h3⟩
   rw [List.take_length] at h2; exact h2
 ·rw [if_neg hc] at h; cases h
def impl_PlainOk_1.f (a0 : Int) : Option (Bool) := if a0 ≥ 33 then (if a0 ≤ 126 then (if a0 = 34 then (some false) else (if a0 = 39 then (some false) else (if a0 = 44 then (some false) else (some (a0 != 92))))) else (some false)) else (some false)
set_option maxHeartbeats 8000000 in
set_option maxRecDepth 100000 in
theorem impl_PlainOk_1.calls (a0 : Int) (r : Bool) (w : World) (h : impl_PlainOk_1.f a0 = some r) :
  Calls Tryz.prog 74 #[.int .u8 a0] w fun e w' => e = .returned (.bool r) ∧ Drawn0 w w' := by
 have H : (if a0 ≥ 33 then (if a0 ≤ 126 then (if a0 = 34 then (some false) else (if a0 = 39 then (some false) else (if a0 = 44 then (some false) else (some (a0 != 92))))) else (some false)) else (some false)) = some r := h
 clear h
 by_cases c2 : a0 ≥ 33
 ·rw [if_pos c2] at H
  have c2b0 : decide (33 ≤ a0) = true := decide_eq_true c2
  clear c2
  by_cases c3 : a0 ≤ 126
  ·rw [if_pos c3] at H
   have c3b0 : decide (a0 ≤ 126) = true := decide_eq_true c3
   clear c3
   by_cases c4 : a0 = 34
   ·rw [if_pos c4] at H
    have c4b0 : (a0 == 34) = true := beq_iff_eq.mpr c4
    have c4b1 : (a0 != 34) = false := bne_eq_false_iff_eq.mpr c4
    clear c4
    obtain rfl := Option.some.inj H
    go_enter Tryz.func74, Tryz.ntmps74
    go_wp2
    go_ret
    exact zs1
   ·rw [if_neg c4] at H
    have c4b0 : (a0 == 34) = false := beq_eq_false_iff_ne.mpr c4
    have c4b1 : (a0 != 34) = true := bne_iff_ne.mpr c4
    by_cases c5 : a0 = 39
    ·rw [if_pos c5] at H
     have c5b0 : (a0 == 39) = true := beq_iff_eq.mpr c5
     have c5b1 : (a0 != 39) = false := bne_eq_false_iff_eq.mpr c5
     clear c5
     obtain rfl := Option.some.inj H
     go_enter Tryz.func74, Tryz.ntmps74
     go_wp2
     go_ret
     exact zs1
    ·rw [if_neg c5] at H
     have c5b0 : (a0 == 39) = false := beq_eq_false_iff_ne.mpr c5
     have c5b1 : (a0 != 39) = true := bne_iff_ne.mpr c5
     by_cases c6 : a0 = 44
     ·rw [if_pos c6] at H
      have c6b0 : (a0 == 44) = true := beq_iff_eq.mpr c6
      have c6b1 : (a0 != 44) = false := bne_eq_false_iff_eq.mpr c6
      clear c6
      obtain rfl := Option.some.inj H
      go_enter Tryz.func74, Tryz.ntmps74
      go_wp2
      go_ret
      exact zs1
     ·rw [if_neg c6] at H
      have c6b0 : (a0 == 44) = false := beq_eq_false_iff_ne.mpr c6
      have c6b1 : (a0 != 44) = true := bne_iff_ne.mpr c6
      obtain rfl := Option.some.inj H
      go_enter Tryz.func74, Tryz.ntmps74
      go_wp2
      go_ret
      exact zs1
  ·rw [if_neg c3] at H
   have c3b0 : decide (a0 ≤ 126) = false := decide_eq_false c3
   clear c3
   obtain rfl := Option.some.inj H
   go_enter Tryz.func74, Tryz.ntmps74
   go_wp2
   go_ret
   exact zs1
 ·rw [if_neg c2] at H
  have c2b0 : decide (33 ≤ a0) = false := decide_eq_false c2
  clear c2
  obtain rfl := Option.some.inj H
  go_enter Tryz.func74, Tryz.ntmps74
  go_wp2
  go_ret
  exact zs1
def impl_all__impl_PlainOk_1.l0 : Nat → ByteArray → Int → Int → Option (Bool)
 | 0, _, _, _ => none
 | k + 1, x0, x7, x8 => if x8 < x7 then (if 0 ≤ x8 then (if x8 < (x0.size : Int) then ((impl_PlainOk_1.f (bt x0 x8)).bind fun t618 => (if t618 = true then (impl_all__impl_PlainOk_1.l0 k x0 x7 (wrap64 (x8 + 1))) else (some false))) else (none)) else (none)) else (some true)
def impl_all__impl_PlainOk_1.f (k : Nat) (a0 : ByteArray)  : Option (Bool) := impl_all__impl_PlainOk_1.l0 k a0 (a0.size : Int) 0
set_option maxHeartbeats 8000000 in
set_option maxRecDepth 100000 in
theorem impl_all__impl_PlainOk_1.calls (k : Nat) (a0 : ByteArray)  (r : Bool) (w : World) (h : impl_all__impl_PlainOk_1.f k a0 = some r) :
  Calls Tryz.prog 69 #[.string a0, (.func (.func 74) #[] #[])] w fun e w' => e = .returned (.bool r) ∧ Drawn0 w w' := by
 have H : (impl_all__impl_PlainOk_1.l0 k a0 (a0.size : Int) 0) = some r := h
 clear h
 have H' := Aside0.mk H
 clear H
 go_enter Tryz.func69, Tryz.ntmps69
 go_wp2
 go_loopg [8] k (fun kq v8 w' => ∃ (x8_1 : Int), v8 = .int .i64 x8_1 ∧ Aside0 (impl_all__impl_PlainOk_1.l0 kq a0 (a0.size : Int) x8_1 = some r) ∧ Aside0 (kq ≤ k) ∧ Drawn0 w w')
 case atStart => exact ⟨(0), zb5, H', ⟨Nat.le_refl _⟩, by repeat (first | exact Drawn0.refl _ | apply Drawn0.step)⟩
 case round =>
  clear H'
  try clear p2
  obtain ⟨x8_1, rfl, HA, HK1, ⟨m1, rfl⟩⟩ := hrel
  cases gk with
  | zero => exact absurd HA.out (by simp [impl_all__impl_PlainOk_1.l0])
  | succ k1 =>
   have H := HA.out
   clear HA
   simp only [impl_all__impl_PlainOk_1.l0] at H
   by_cases c3 : x8_1 < (a0.size : Int)
   ·rw [if_pos c3] at H
    have c3b0 : decide (x8_1 < (a0.size : Int)) = true := decide_eq_true c3
    clear c3
    by_cases c4 : 0 ≤ x8_1
    ·rw [if_pos c4] at H
     have c4b0 : decide (0 ≤ x8_1) = true := decide_eq_true c4
     clear c4
     by_cases c5 : x8_1 < (a0.size : Int)
     ·rw [if_pos c5] at H
      have c5b0 : decide (x8_1 < (a0.size : Int)) = true := decide_eq_true c5
      clear c5
      replace H := Option.bind_eq_some_iff.mp H
      obtain ⟨t618, A70, H⟩ := H
      replace H : (if t618 = true then (impl_all__impl_PlainOk_1.l0 k1 a0 (a0.size : Int) (wrap64 (x8_1 + 1))) else (some false)) = some r := H
      have A7 := Aside0.mk A70
      clear A70
      by_cases c8 : t618 = true
      ·subst c8
       have H1 : (impl_all__impl_PlainOk_1.l0 k1 a0 (a0.size : Int) (wrap64 (x8_1 + 1))) = some r := by rw [if_pos rfl] at H; exact H
       clear H
       have H := H1
       clear H1
       have H' := Aside0.mk H
       clear H
       have p6 : 0 ≤ (x8_1 : Int) := of_decide_eq_true zb2
       have q6 : x8_1 < (a0.size : Int) := of_decide_eq_true zb2
       have hx6 := bt_at a0 x8_1
       replace p6 := eq_true p6
       replace q6 := eq_true q6
       go_wp2_with (first | (go_at_call 74; (with_reducible refine (impl_PlainOk_1.calls (bt a0 x8_1) true _ A7.out).mono ?_); rintro e w' ⟨rfl, ⟨nd, rfl⟩⟩))
       go_roundg k1
       case measure => have := HK1.out; omega
       case rel => exact ⟨(wrap64 (x8_1 + 1)), zb5, H', ⟨by have := HK1.out; omega⟩, by repeat (first | exact Drawn0.refl _ | apply Drawn0.step)⟩
      ·replace c8 := Bool.eq_false_iff.mpr c8
       subst c8
       have H1 : (some false) = some r := by rw [if_neg (show ¬ (false = true) by decide)] at H; exact H
       clear H
       have H := H1
       clear H1
       obtain rfl := Option.some.inj H
       have p6 : 0 ≤ (x8_1 : Int) := of_decide_eq_true zb2
       have q6 : x8_1 < (a0.size : Int) := of_decide_eq_true zb2
       have hx6 := bt_at a0 x8_1
       replace p6 := eq_true p6
       replace q6 := eq_true q6
       go_wp2_with (first | (go_at_call 74; (with_reducible refine (impl_PlainOk_1.calls (bt a0 x8_1) false _ A7.out).mono ?_); rintro e w' ⟨rfl, ⟨nd, rfl⟩⟩))
       go_ret
       exact zs1
     ·rw [if_neg c5] at H
      exact absurd H (by simp)
    ·rw [if_neg c4] at H
     exact absurd H (by simp)
   ·rw [if_neg c3] at H
    have c3b0 : decide (x8_1 < (a0.size : Int)) = false := decide_eq_false c3
    clear c3
    obtain rfl := Option.some.inj H
    go_wp2
    go_ret
    exact zs1
def impl_PlainOk.f (k : Nat) (a0 : ByteArray) : Option (Bool) := if (a0.size : Int) ≤ 100 then ((impl_all__impl_PlainOk_1.f k a0).bind fun t619 => (some t619)) else (some false)
set_option maxHeartbeats 8000000 in
set_option maxRecDepth 100000 in
theorem impl_PlainOk.calls (k : Nat) (a0 : ByteArray) (r : Bool) (w : World) (h : impl_PlainOk.f k a0 = some r) :
  Calls Tryz.prog 43 #[.string a0] w fun e w' => e = .returned (.bool r) ∧ Drawn0 w w' := by
 have H : (if (a0.size : Int) ≤ 100 then ((impl_all__impl_PlainOk_1.f k a0).bind fun t619 => (some t619)) else (some false)) = some r := h
 clear h
 by_cases c2 : (a0.size : Int) ≤ 100
 ·rw [if_pos c2] at H
  have c2b0 : decide ((a0.size : Int) ≤ 100) = true := decide_eq_true c2
  have c2b1 : decide (a0.size ≤ 100) = true := decide_eq_true (by omega)
  clear c2
  replace H := Option.bind_eq_some_iff.mp H
  obtain ⟨t619, A30, H⟩ := H
  replace H : (some t619) = some r := H
  have A3 := Aside0.mk A30
  clear A30
  obtain rfl := Option.some.inj H
  go_enter Tryz.func43, Tryz.ntmps43
  go_wp2_with (first | (go_at_call 69; (with_reducible refine (impl_all__impl_PlainOk_1.calls k a0 t619 _ A3.out).mono ?_); rintro e w' ⟨rfl, ⟨nd, rfl⟩⟩))
  go_ret
  exact zs1
 ·rw [if_neg c2] at H
  have c2b0 : decide ((a0.size : Int) ≤ 100) = false := decide_eq_false c2
  have c2b1 : decide (a0.size ≤ 100) = false := decide_eq_false (by omega)
  clear c2
  obtain rfl := Option.some.inj H
  go_enter Tryz.func43, Tryz.ntmps43
  go_wp2
  go_ret
  exact zs1
end Go.Proofs.YtbepbfibanmhoaaGreatDoor.G

end
