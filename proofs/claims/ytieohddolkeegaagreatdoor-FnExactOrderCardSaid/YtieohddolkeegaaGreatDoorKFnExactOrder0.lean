/- A part of the proof that the law FnExactOrder answers true at every input that its row speaks of. Conditions: the row's own. -/
import Derived.Test.YtieohddolkeegaaGreatDoorProg
import Derived.Test.YtieohddolkeegaaGreatDoorOrd
import Derived.Below
import Derived.Deep.Draws
import Derived.Deep.AppendLies
import Derived.Maps.AppendAt
import Derived.OwnWalk
import Derived.Laws.BytesArg
import Derived.Laws.MakeOwn
import Derived.Laws.OwnMore
import Derived.Deep.OwnRows
import Derived.Tactics
import Derived.Lib.ConvBytes
import Derived.Laws.Slices
import Derived.WalkKit
import Derived.KernelRfl
import Derived.RowKit3
import Derived.Deep.LoopGhost
import Derived.Deep.QuietTactic
import Derived.BigQuiet
import Derived.WideLaws
import Derived.Deep.DeepCutAuto
import Derived.Deep.CutBlock
import Derived.Deep.RegionHeld3
import Derived.Laws.Rows
import Derived.Lib.AppendStr
import Derived.ArgAppend
import Derived.Laws.IdiomCopy
import Derived.OrdersHeld
import Derived.Laws.BitsLemmas
import Derived.RowKit
import Derived.Test.YtieohddolkeegaaGreatDoorGlob
import Derived.Test.YtieohddolkeegaaGreatDoorVMore
import Derived.Lib.SplitLaws
import Derived.Test.YtieohddolkeegaaGreatDoorShelf
import Derived.Lib.AppendIntMem
import Derived.Lib.SmallJoins
section
namespace Go.Proofs.YtieohddolkeegaaGreatDoor.G
open Go.RowKit Go.Proofs.YtieohddolkeegaaGreatDoorW.PrintWords Go.Proofs.YtieohddolkeegaaGreatDoorW.PrintLast Go.Proofs.YtieohddolkeegaaGreatDoorW.PrintMore
attribute [local go_sem] max2_int min2_int max_two min_two max_three min_three max_four min_four
attribute [local go_sem high] Go.Proofs.YtieohddolkeegaaGreatDoor.G.str_gtr Go.Proofs.YtieohddolkeegaaGreatDoor.G.str_leq Go.Proofs.YtieohddolkeegaaGreatDoor.G.str_geq
set_option linter.unusedVariables false
set_option linter.unusedSimpArgs false
def errW : Option Int → Value
 | none => .nilIface
 | some c => .iface 0 (.int .i64 c)
theorem errW_none : errW none = .nilIface := rfl
theorem errW_some (c : Int) : errW (some c) = .iface 0 (.int .i64 c) := rfl
theorem info9 : (Tryz.prog.info? 9).map (fun i => (i.zero, i.size, i.bytes)) = some (some (.string ⟨#[]⟩), 1, 16) := by kernel_rfl
theorem info47 : (Tryz.prog.info? 47).map (fun i => (i.zero, i.size, i.bytes)) = some (some (.agg #[(.string ⟨#[]⟩), (.string ⟨#[]⟩), (.string ⟨#[]⟩), (.slice none 0 0), (.bool false), (.slice none 0 0)]), 6, 104) := by kernel_rfl
theorem info130 : (Tryz.prog.info? 130).map (fun i => (i.zero, i.size, i.bytes)) = some (some (.agg #[(.string ⟨#[]⟩), (.string ⟨#[]⟩)]), 2, 32) := by kernel_rfl
structure S130 where
 f0 : ByteArray
 f1 : ByteArray
def z130 : S130 := ⟨(⟨#[]⟩ : ByteArray), (⟨#[]⟩ : ByteArray)⟩
def k130 : Kd S130 := Kd.iso (Kd.pair Kd.string Kd.string) (fun x : S130 => (x.f0, x.f1))
theorem k130_openM {w : World} {base : Nat} {ok : Nat → Prop} {x : S130} {cs : List Value} (h : k130.M w base ok x cs) : cs = [.string x.f0, .string x.f1] := by
 obtain ⟨_, _, rfl, rfl, rfl⟩ := h
 exact rfl
theorem k130_mkM (w : World) (base : Nat) (ok : Nat → Prop) (x : S130)  : k130.M w base ok x [.string x.f0, .string x.f1] := ⟨[.string x.f0], [.string x.f1], rfl, rfl, rfl⟩
def rd_T130 (xs : List S130) (i : Int) : S130 := xs.getD i.toNat z130
def rd_L2 (xs : List (List ByteArray)) (i : Int) : (List ByteArray) := xs.getD i.toNat ([] : List ByteArray)
structure S67 where
 f0 : ByteArray
 f1 : ByteArray
def z67 : S67 := ⟨(⟨#[]⟩ : ByteArray), (⟨#[]⟩ : ByteArray)⟩
def k67 : Kd S67 := Kd.iso (Kd.pair Kd.string Kd.string) (fun x : S67 => (x.f0, x.f1))
def rd_T67 (xs : List S67) (i : Int) : S67 := xs.getD i.toNat z67
def rd_L6 (xs : List (List S130)) (i : Int) : (List S130) := xs.getD i.toNat ([] : List S130)
structure S47 where
 f0 : ByteArray
 f1 : ByteArray
 f2 : ByteArray
 f3 : (List S130)
 f4 : Bool
 f5 : (List ByteArray)
def z47 : S47 := ⟨(⟨#[]⟩ : ByteArray), (⟨#[]⟩ : ByteArray), (⟨#[]⟩ : ByteArray), ([] : List S130), false, ([] : List ByteArray)⟩
def k47 : Kd S47 := Kd.iso (Kd.pair Kd.string (Kd.pair Kd.string (Kd.pair Kd.string (Kd.pair (Kd.slice 130 k130) (Kd.pair Kd.bool (Kd.slice 9 Kd.string)))))) (fun x : S47 => (x.f0, x.f1, x.f2, x.f3, x.f4, x.f5))
theorem k47_open {w : World} {x : S47} {cs : List Value} (h : k47.K w x cs) : ∃ A3 c3 A5 c5, cs = [.string x.f0, .string x.f1, .string x.f2, .slice A3 x.f3.length c3, .bool x.f4, .slice A5 x.f5.length c5] ∧ x.f3.length ≤ c3 ∧ k130.C w A3 x.f3.length x.f3 ∧ x.f5.length ≤ c5 ∧ Kd.string.C w A5 x.f5.length x.f5 := by
 obtain ⟨_, _, rfl, rfl, ⟨_, _, rfl, rfl, ⟨_, _, rfl, rfl, ⟨_, _, rfl, ⟨A3, c3, rfl, l3, g3⟩, ⟨_, _, rfl, rfl, ⟨A5, c5, rfl, l5, g5⟩⟩⟩⟩⟩⟩ := h
 exact ⟨A3, c3, A5, c5, rfl, l3, g3, l5, g5⟩
theorem k47_openM {w : World} {base : Nat} {ok : Nat → Prop} {x : S47} {cs : List Value} (h : k47.M w base ok x cs) : ∃ v3 v5, cs = [.string x.f0, .string x.f1, .string x.f2, v3, .bool x.f4, v5] ∧ k130.R 130 w base ok v3 x.f3 ∧ Kd.string.R 9 w base ok v5 x.f5 := by
 obtain ⟨_, _, rfl, rfl, ⟨_, _, rfl, rfl, ⟨_, _, rfl, rfl, ⟨_, _, rfl, ⟨v3, rfl, g3⟩, ⟨_, _, rfl, rfl, ⟨v5, rfl, g5⟩⟩⟩⟩⟩⟩ := h
 exact ⟨v3, v5, rfl, g3, g5⟩
theorem k47_mkM (w : World) (base : Nat) (ok : Nat → Prop) (x : S47) {v3 : Value} (g3 : k130.R 130 w base ok v3 x.f3) {v5 : Value} (g5 : Kd.string.R 9 w base ok v5 x.f5) : k47.M w base ok x [.string x.f0, .string x.f1, .string x.f2, v3, .bool x.f4, v5] := ⟨[.string x.f0], [.string x.f1, .string x.f2, v3, .bool x.f4, v5], rfl, rfl, ⟨[.string x.f1], [.string x.f2, v3, .bool x.f4, v5], rfl, rfl, ⟨[.string x.f2], [v3, .bool x.f4, v5], rfl, rfl, ⟨[v3], [.bool x.f4, v5], rfl, ⟨v3, rfl, g3⟩, ⟨[.bool x.f4], [v5], rfl, rfl, ⟨v5, rfl, g5⟩⟩⟩⟩⟩⟩
def rd_T47 (xs : List S47) (i : Int) : S47 := xs.getD i.toNat z47
theorem at_T47 {w : World} {A : Option Addr} {n : Nat} {xs : List S47} (h : Kd.C k47 w A n xs) (i : Int) (h0 : 0 ≤ i) (h1 : i < n) : ∃ ad A3 c3 A5 c5, A = some ad ∧ w.cell? (ad.add (i.toNat * 6)) = some (.string (rd_T47 xs i).f0) ∧ w.cell? ⟨(ad.add (i.toNat * 6)).block, (ad.add (i.toNat * 6)).off + 1, none⟩ = some (.string (rd_T47 xs i).f1) ∧ w.cell? ⟨(ad.add (i.toNat * 6)).block, (ad.add (i.toNat * 6)).off + 2, none⟩ = some (.string (rd_T47 xs i).f2) ∧ w.cell? ⟨(ad.add (i.toNat * 6)).block, (ad.add (i.toNat * 6)).off + 3, none⟩ = some (.slice A3 (rd_T47 xs i).f3.length c3) ∧ w.cell? ⟨(ad.add (i.toNat * 6)).block, (ad.add (i.toNat * 6)).off + 4, none⟩ = some (.bool (rd_T47 xs i).f4) ∧ w.cell? ⟨(ad.add (i.toNat * 6)).block, (ad.add (i.toNat * 6)).off + 5, none⟩ = some (.slice A5 (rd_T47 xs i).f5.length c5) ∧ (rd_T47 xs i).f3.length ≤ c3 ∧ k130.C w A3 (rd_T47 xs i).f3.length (rd_T47 xs i).f3 ∧ (rd_T47 xs i).f5.length ≤ c5 ∧ Kd.string.C w A5 (rd_T47 xs i).f5.length (rd_T47 xs i).f5 := by
 obtain ⟨ad, c, e, _, hK, hc0⟩ := Kd.C_get h z47 i h0 h1
 have hc : ∀ j u, c[j]? = some u → w.cell? (ad.add (i.toNat * 6 + j)) = some u := hc0
 obtain ⟨A3, c3, A5, c5, rfl, l3, g3, l5, g5⟩ := k47_open hK
 exact ⟨ad, A3, c3, A5, c5, e, hc 0 _ rfl, by rw [← add_field _ _ 1 (by omega)]; exact hc 1 _ rfl, by rw [← add_field _ _ 2 (by omega)]; exact hc 2 _ rfl, by rw [← add_field _ _ 3 (by omega)]; exact hc 3 _ rfl, by rw [← add_field _ _ 4 (by omega)]; exact hc 4 _ rfl, by rw [← add_field _ _ 5 (by omega)]; exact hc 5 _ rfl, l3, g3, l5, g5⟩
def rd_L8 (xs : List (List S47)) (i : Int) : (List S47) := xs.getD i.toNat ([] : List S47)
structure S39 where
 f0 : (List ByteArray)
 f1 : (List S47)
def z39 : S39 := ⟨([] : List ByteArray), ([] : List S47)⟩
def k39 : Kd S39 := Kd.iso (Kd.pair (Kd.slice 9 Kd.string) (Kd.slice 47 k47)) (fun x : S39 => (x.f0, x.f1))
def rd_T39 (xs : List S39) (i : Int) : S39 := xs.getD i.toNat z39
structure S185 where
 f0 : ByteArray
 f1 : ByteArray
def z185 : S185 := ⟨(⟨#[]⟩ : ByteArray), (⟨#[]⟩ : ByteArray)⟩
def k185 : Kd S185 := Kd.iso (Kd.pair Kd.string Kd.string) (fun x : S185 => (x.f0, x.f1))
theorem k185_open {w : World} {x : S185} {cs : List Value} (h : k185.K w x cs) : cs = [.string x.f0, .string x.f1] := by
 obtain ⟨_, _, rfl, rfl, rfl⟩ := h
 exact rfl
def rd_T185 (xs : List S185) (i : Int) : S185 := xs.getD i.toNat z185
theorem at_T185 {w : World} {A : Option Addr} {n : Nat} {xs : List S185} (h : Kd.C k185 w A n xs) (i : Int) (h0 : 0 ≤ i) (h1 : i < n) : ∃ ad , A = some ad ∧ w.cell? (ad.add (i.toNat * 2)) = some (.string (rd_T185 xs i).f0) ∧ w.cell? ⟨(ad.add (i.toNat * 2)).block, (ad.add (i.toNat * 2)).off + 1, none⟩ = some (.string (rd_T185 xs i).f1) := by
 obtain ⟨ad, c, e, _, hK, hc0⟩ := Kd.C_get h z185 i h0 h1
 have hc : ∀ j u, c[j]? = some u → w.cell? (ad.add (i.toNat * 2 + j)) = some u := hc0
 obtain rfl := k185_open hK
 exact ⟨ad, e, hc 0 _ rfl, by rw [← add_field _ _ 1 (by omega)]; exact hc 1 _ rfl⟩
def rd_L11 (xs : List (List S185)) (i : Int) : (List S185) := xs.getD i.toNat ([] : List S185)
structure S139 where
 f0 : ByteArray
 f1 : ByteArray
 f2 : ByteArray
 f3 : (List S185)
 f4 : Bool
 f5 : (List ByteArray)
def z139 : S139 := ⟨(⟨#[]⟩ : ByteArray), (⟨#[]⟩ : ByteArray), (⟨#[]⟩ : ByteArray), ([] : List S185), false, ([] : List ByteArray)⟩
def k139 : Kd S139 := Kd.iso (Kd.pair Kd.string (Kd.pair Kd.string (Kd.pair Kd.string (Kd.pair (Kd.slice 185 k185) (Kd.pair Kd.bool (Kd.slice 9 Kd.string)))))) (fun x : S139 => (x.f0, x.f1, x.f2, x.f3, x.f4, x.f5))
theorem k139_open {w : World} {x : S139} {cs : List Value} (h : k139.K w x cs) : ∃ A3 c3 A5 c5, cs = [.string x.f0, .string x.f1, .string x.f2, .slice A3 x.f3.length c3, .bool x.f4, .slice A5 x.f5.length c5] ∧ x.f3.length ≤ c3 ∧ k185.C w A3 x.f3.length x.f3 ∧ x.f5.length ≤ c5 ∧ Kd.string.C w A5 x.f5.length x.f5 := by
 obtain ⟨_, _, rfl, rfl, ⟨_, _, rfl, rfl, ⟨_, _, rfl, rfl, ⟨_, _, rfl, ⟨A3, c3, rfl, l3, g3⟩, ⟨_, _, rfl, rfl, ⟨A5, c5, rfl, l5, g5⟩⟩⟩⟩⟩⟩ := h
 exact ⟨A3, c3, A5, c5, rfl, l3, g3, l5, g5⟩
def rd_T139 (xs : List S139) (i : Int) : S139 := xs.getD i.toNat z139
theorem at_T139 {w : World} {A : Option Addr} {n : Nat} {xs : List S139} (h : Kd.C k139 w A n xs) (i : Int) (h0 : 0 ≤ i) (h1 : i < n) : ∃ ad A3 c3 A5 c5, A = some ad ∧ w.cell? (ad.add (i.toNat * 6)) = some (.string (rd_T139 xs i).f0) ∧ w.cell? ⟨(ad.add (i.toNat * 6)).block, (ad.add (i.toNat * 6)).off + 1, none⟩ = some (.string (rd_T139 xs i).f1) ∧ w.cell? ⟨(ad.add (i.toNat * 6)).block, (ad.add (i.toNat * 6)).off + 2, none⟩ = some (.string (rd_T139 xs i).f2) ∧ w.cell? ⟨(ad.add (i.toNat * 6)).block, (ad.add (i.toNat * 6)).off + 3, none⟩ = some (.slice A3 (rd_T139 xs i).f3.length c3) ∧ w.cell? ⟨(ad.add (i.toNat * 6)).block, (ad.add (i.toNat * 6)).off + 4, none⟩ = some (.bool (rd_T139 xs i).f4) ∧ w.cell? ⟨(ad.add (i.toNat * 6)).block, (ad.add (i.toNat * 6)).off + 5, none⟩ = some (.slice A5 (rd_T139 xs i).f5.length c5) ∧ (rd_T139 xs i).f3.length ≤ c3 ∧ k185.C w A3 (rd_T139 xs i).f3.length (rd_T139 xs i).f3 ∧ (rd_T139 xs i).f5.length ≤ c5 ∧ Kd.string.C w A5 (rd_T139 xs i).f5.length (rd_T139 xs i).f5 := by
 obtain ⟨ad, c, e, _, hK, hc0⟩ := Kd.C_get h z139 i h0 h1
 have hc : ∀ j u, c[j]? = some u → w.cell? (ad.add (i.toNat * 6 + j)) = some u := hc0
 obtain ⟨A3, c3, A5, c5, rfl, l3, g3, l5, g5⟩ := k139_open hK
 exact ⟨ad, A3, c3, A5, c5, e, hc 0 _ rfl, by rw [← add_field _ _ 1 (by omega)]; exact hc 1 _ rfl, by rw [← add_field _ _ 2 (by omega)]; exact hc 2 _ rfl, by rw [← add_field _ _ 3 (by omega)]; exact hc 3 _ rfl, by rw [← add_field _ _ 4 (by omega)]; exact hc 4 _ rfl, by rw [← add_field _ _ 5 (by omega)]; exact hc 5 _ rfl, l3, g3, l5, g5⟩
def rd_L14 (xs : List (List S139)) (i : Int) : (List S139) := xs.getD i.toNat ([] : List S139)
def impl_KeyOf.f (a0_0 : ByteArray) (a0_1 : ByteArray) (a0_2 : ByteArray) (l0_3 : List (S130)) (a0_4 : Bool) (l0_5 : List ByteArray) : Option (ByteArray) := if a0_0.size + 1 ≤ 9223372036854775807 then (if (a0_0 ++ (⟨#[64]⟩ : ByteArray)).size + a0_1.size ≤ 9223372036854775807 then (some ((a0_0 ++ (⟨#[64]⟩ : ByteArray)) ++ a0_1)) else (none)) else (none)
def strings_Split.f (a0 : ByteArray) (a1 : ByteArray) : Option (List ByteArray) := if a0.size < 4294967281 ∧ 1 ≤ a1.size then some (Lib.splitB a1 0 (Lib.countB a0 a1) a0) else none
theorem strings_Split.calls (a0 : ByteArray) (a1 : ByteArray) (r : List ByteArray) (w : World) (hGM : Glob FactM w) (h : strings_Split.f a0 a1 = some r) :
  Calls Tryz.prog 47 #[.string a0, .string a1] w fun e w' => ∃ v0_ : Value, e = .returned (v0_) ∧ Kd.R Kd.string 9 w' w.heap.size (fun _ => True) v0_ r ∧ Below w.heap.size w w' := by
 unfold strings_Split.f at h
 by_cases hc : a0.size < 4294967281 ∧ 1 ≤ a1.size
 ·rw [if_pos hc] at h
  obtain rfl := Option.some.inj h
  obtain ⟨m, hm⟩ := FactM.here hGM
  have hl : (Lib.splitB a1 0 (Lib.countB a0 a1) a0).length = Lib.countB a0 a1 + 1 := Lib.splitB_all a1 hc.2 0 _ a0 rfl
  have hn : Lib.countB a0 a1 ≤ a0.size := Lib.countB_le a1 hc.2 a0.size a0 (Nat.le_refl _)
  refine (Tryz.strings_Split a0 a1 m w hc.1 hm hc.2).mono fun e w' ⟨h1, h2⟩ => ⟨_, h1, ?_, ?_⟩
  ·rw [h2]
   refine Kd.R_of_own ?_ (fun _ _ => trivial)
   rw [hl]
   refine ⟨by rw [encs, List.length_map, hl]; omega, Or.inr ⟨w.heap.size, _, _, rfl, Nat.le_refl _, heap_alloc_new w _, Nat.le_refl _, by unfold maxLen; omega, by rw [List.size_toArray, List.length_map, hl]; omega, ?_⟩⟩
   rw [List.take_of_length_le (by rw [List.length_map, hl]; omega)]
   rfl
  ·rw [h2]; exact (Below.refl _ w).alloc (Nat.le_refl _) _
 ·rw [if_neg hc] at h; cases h
def strings_Cut.f (a0 : ByteArray) (a1 : ByteArray) : Option (ByteArray × ByteArray × Bool) := if a0.size < 4294967281 then some (⟨(Lib.cut a0.data.toList a1.data.toList).1.toArray⟩, ⟨(Lib.cut a0.data.toList a1.data.toList).2.1.toArray⟩, (Lib.cut a0.data.toList a1.data.toList).2.2) else none
theorem strings_Cut.calls (a0 : ByteArray) (a1 : ByteArray) (r1 : ByteArray) (r2 : ByteArray) (r3 : Bool) (w : World) (hGM : Glob FactM w) (h : strings_Cut.f a0 a1 = some (r1, r2, r3)) :
  Calls Tryz.prog 94 #[.string a0, .string a1] w fun e w' => e = .returned (.tuple #[.string r1, .string r2, .bool r3]) ∧ Drawn0 w w' := by
 unfold strings_Cut.f at h
 by_cases hc : a0.size < 4294967281
 ·rw [if_pos hc] at h
  obtain ⟨rfl, rfl, rfl⟩ := by simpa using h
  obtain ⟨m, hm⟩ := FactM.here hGM
  exact (Tryz.strings_Cut a0 a1 m w hc hm).mono fun e w' ⟨h1, h2⟩ => ⟨h1, ⟨h2⟩⟩
 ·rw [if_neg hc] at h; cases h
def impl_within.f (a0 : Int) (a1 : Int) (a2 : Int) : Option (Bool) := if a1 ≤ a0 then (some (decide (a0 ≤ a2))) else (some false)
set_option maxHeartbeats 8000000 in
set_option maxRecDepth 100000 in
theorem impl_within.calls (a0 : Int) (a1 : Int) (a2 : Int) (r : Bool) (w : World) (h : impl_within.f a0 a1 a2 = some r) :
  Calls Tryz.prog 56 #[.int .i64 a0, .int .i64 a1, .int .i64 a2] w fun e w' => e = .returned (.bool r) ∧ Drawn0 w w' := by
 have H : (if a1 ≤ a0 then (some (decide (a0 ≤ a2))) else (some false)) = some r := h
 clear h
 by_cases c4 : a1 ≤ a0
 ·rw [if_pos c4] at H
  have c4b0 : decide (a1 ≤ a0) = true := decide_eq_true c4
  clear c4
  obtain rfl := Option.some.inj H
  go_enter Tryz.func56, Tryz.ntmps56
  go_wp2
  go_ret
  exact ⟨by first | rfl | (simp; done) | (simp [*]; done) | (simp; exact isEmpty_ne _), by repeat (first | exact Drawn0.refl _ | apply Drawn0.step)⟩
 ·rw [if_neg c4] at H
  have c4b0 : decide (a1 ≤ a0) = false := decide_eq_false c4
  clear c4
  obtain rfl := Option.some.inj H
  go_enter Tryz.func56, Tryz.ntmps56
  go_wp2
  go_ret
  exact ⟨by first | rfl | (simp; done) | (simp [*]; done) | (simp; exact isEmpty_ne _), by repeat (first | exact Drawn0.refl _ | apply Drawn0.step)⟩
def strconv_Itoa.f (a0 : Int) : Option ByteArray := if -9223372036854775808 ≤ a0 ∧ a0 ≤ 9223372036854775807 then some ⟨(Lib.itoa a0).toArray⟩ else none
theorem strconv_Itoa.calls (a0 : Int) (r : ByteArray) (w : World) (hGT : Glob FactT w) (h : strconv_Itoa.f a0 = some r) :
  Calls Tryz.prog 176 #[.int .i64 a0] w fun e w' => e = .returned (.string r) ∧ Below w.heap.size w w' := by
 unfold strconv_Itoa.f at h
 by_cases hc : -9223372036854775808 ≤ a0 ∧ a0 ≤ 9223372036854775807
 ·rw [if_pos hc] at h
  obtain rfl := Option.some.inj h
  refine (Tryz.strconv_Itoa a0 hc.1 hc.2 w (FactT.here hGT)).mono fun e w' ⟨h1, k, os, h2⟩ => ⟨h1, ?_⟩
  rw [h2]; exact Lib.below_grow _ w (Nat.le_refl _) k os
 ·rw [if_neg hc] at h; cases h
def impl_DecText.f (a0 : Int) : Option (ByteArray) := (strconv_Itoa.f a0).bind fun t102 => (some t102)
set_option maxHeartbeats 8000000 in
set_option maxRecDepth 100000 in
theorem impl_DecText.calls (a0 : Int) (r : ByteArray) (w : World) (hGT : Glob FactT w) (h : impl_DecText.f a0 = some r) :
  Calls Tryz.prog 140 #[.int .i64 a0] w fun e w' => e = .returned (.string r) ∧ Below w.heap.size w w' := by
 have HB := Aside0.mk (Below.refl w.heap.size w)
 have HGT := Aside0.mk hGT
 clear hGT
 have H : ((strconv_Itoa.f a0).bind fun t102 => (some t102)) = some r := h
 clear h
 replace H := Option.bind_eq_some_iff.mp H
 obtain ⟨t102, A20, H⟩ := H
 replace H : (some t102) = some r := H
 have A2 := Aside0.mk A20
 clear A20
 obtain rfl := Option.some.inj H
 go_enter Tryz.func140, Tryz.ntmps140
 go_wp2_with (first | ((with_reducible refine gate_callee (f := 176) rfl ?_); refine goesL_ (some 4) rfl rfl Tryz.func176 (by kernel_rfl) rfl #[.int .i64 a0] rfl (by (try simp only [List.map_toArray, List.map_cons, List.map_nil]); first | done | rfl | (simp only [List.length_drop, List.length_take]; rfl)) ?_; (with_reducible refine (strconv_Itoa.calls a0 t102 _ ?side1 A2.out).mono ?_); (case side1 => exact Glob.below HGT.out (by repeat (first | (with_reducible first | exact HB.out | apply below_alloc | apply pw_below_drewN | apply below_drew1) | exact HB.out))); rintro e w3 ⟨rfl, hb⟩; refine ⟨_, rfl, ?_⟩; have n0_ := Aside0.mk (below_step (by repeat (first | (with_reducible first | exact HB.out | apply below_alloc | apply pw_below_drewN | apply below_drew1) | exact HB.out)) hb); clear HB; have HB := n0_; clear n0_; (try clear hb)))
 go_ret
 exact ⟨by first | rfl | (simp [errW_none, errW_some] <;> rfl) | (simp [*, errW_none, errW_some] <;> rfl), by repeat (first | (with_reducible first | exact HB.out | apply below_alloc | apply pw_below_drewN | apply below_drew1) | exact HB.out)⟩
def impl_ReadDec.f (a0 : ByteArray) : Option Int := if a0.size ≤ 281474976710656 then (match Lib.atoiAll a0.data.toList with | .ok n => (impl_within.f n 0 999999999).bind fun t => if t = true then (impl_DecText.f n).bind fun s => if s.toList = a0.toList then some n else some (-1) else some (-1) | _ => some (-1)) else none
set_option maxHeartbeats 8000000 in
set_option maxRecDepth 100000 in
theorem impl_ReadDec.calls (a0 : ByteArray) (r : Int) (w : World) (hGE : Glob FactE w) (hGT : Glob FactT w) (h : impl_ReadDec.f a0 = some r) :
  Calls Tryz.prog 104 #[.string a0] w fun e w' => e = .returned (.int .i64 r) ∧ Below w.heap.size w w' := by
 have HB := Aside0.mk (Below.refl w.heap.size w)
 have HGT := Aside0.mk hGT
 clear hGT
 unfold impl_ReadDec.f at h
 by_cases hc : a0.size ≤ 281474976710656
 case neg => rw [if_neg hc] at h; cases h
 rw [if_pos hc] at h
 obtain ⟨⟨t1, p1, e1⟩, ⟨t2, p2, e2⟩⟩ := FactE.here hGE
 clear hGE
 cases ha : Lib.atoiAll a0.data.toList
 ·rename_i n
  rw [ha] at h
  have C : Calls Tryz.prog 139 #[.string a0] w fun e w' => e = .returned (.tuple #[.int .i64 n, .nilIface]) ∧ Below w.heap.size w w' := by
   refine (Tryz.strconv_Atoi_ok a0 (by omega) n ha w).mono fun e w' ⟨h1, h2⟩ => ⟨h1, ?_⟩
   rcases h2 with rfl | ⟨t, rfl⟩
   ·exact Below.refl _ _
   ·exact Go.Joins.below_bytesWorld _ w _ t (Nat.le_refl _)
  replace C := Aside0.mk C
  clear ha e1 e2
  have H : ((impl_within.f n 0 999999999).bind fun t => if t = true then (impl_DecText.f n).bind fun s => if s.toList = a0.toList then some n else some (-1) else some (-1)) = some r := h
  clear h
  replace H := Option.bind_eq_some_iff.mp H
  obtain ⟨tw, Aw0, H⟩ := H
  have Aw := Aside0.mk Aw0
  clear Aw0
  replace H : (if tw = true then (impl_DecText.f n).bind fun s => if s.toList = a0.toList then some n else some (-1) else some (-1)) = some r := H
  cases tw with
  | false =>
   rw [if_neg (by decide)] at H
   obtain rfl := Option.some.inj H
   go_enter Tryz.func104, Tryz.ntmps104
   go_wp2_with (first | (go_at_call 139; (with_reducible refine C.out.mono ?_); rintro e w' ⟨rfl, hb⟩; have n0_ := Aside0.mk (below_step (by repeat (first | (with_reducible first | exact HB.out | apply below_alloc | apply pw_below_drewN | apply below_drew1) | exact HB.out)) hb); clear HB; have HB := n0_; clear n0_; (try clear hb)) | (go_at_call 56; (with_reducible refine (impl_within.calls n 0 999999999 false _ Aw.out).mono ?_); rintro e w' ⟨rfl, ⟨nd, rfl⟩⟩))
   go_ret
   exact ⟨by first | rfl | (simp; done), by repeat (first | (with_reducible first | exact HB.out | apply below_alloc | apply pw_below_drewN | apply below_drew1) | exact HB.out)⟩
  | true =>
   rw [if_pos rfl] at H
   replace H := Option.bind_eq_some_iff.mp H
   obtain ⟨ts, As0, H⟩ := H
   have As := Aside0.mk As0
   clear As0
   replace H : (if ts.toList = a0.toList then some n else some (-1)) = some r := H
   by_cases c4 : ts.toList = a0.toList
   ·rw [if_pos c4] at H
    have c4b0 : (ts.toList == a0.toList) = true := beq_iff_eq.mpr c4
    have c4b1 : (ts.toList != a0.toList) = false := bne_eq_false_iff_eq.mpr c4
    clear c4
    obtain rfl := Option.some.inj H
    go_enter Tryz.func104, Tryz.ntmps104
    go_wp2_with (first | (go_at_call 139; (with_reducible refine C.out.mono ?_); rintro e w' ⟨rfl, hb⟩; have n0_ := Aside0.mk (below_step (by repeat (first | (with_reducible first | exact HB.out | apply below_alloc | apply pw_below_drewN | apply below_drew1) | exact HB.out)) hb); clear HB; have HB := n0_; clear n0_; (try clear hb)) | (go_at_call 56; (with_reducible refine (impl_within.calls n 0 999999999 true _ Aw.out).mono ?_); rintro e w' ⟨rfl, ⟨nd, rfl⟩⟩) | (go_at_call 140; (with_reducible refine (impl_DecText.calls n ts _ ?side1 As.out).mono ?_); (case side1 => exact Glob.below HGT.out (by repeat (first | (with_reducible first | exact HB.out | apply below_alloc | apply pw_below_drewN | apply below_drew1) | exact HB.out))); rintro e w3 ⟨rfl, hb⟩; have n0_ := Aside0.mk (below_step (by repeat (first | (with_reducible first | exact HB.out | apply below_alloc | apply pw_below_drewN | apply below_drew1) | exact HB.out)) hb); clear HB; have HB := n0_; clear n0_; (try clear hb)))
    go_ret
    exact ⟨by first | rfl | (simp; done), by repeat (first | (with_reducible first | exact HB.out | apply below_alloc | apply pw_below_drewN | apply below_drew1) | exact HB.out)⟩
   ·rw [if_neg c4] at H
    have c4b0 : (ts.toList == a0.toList) = false := beq_eq_false_iff_ne.mpr c4
    have c4b1 : (ts.toList != a0.toList) = true := bne_iff_ne.mpr c4
    clear c4
    obtain rfl := Option.some.inj H
    go_enter Tryz.func104, Tryz.ntmps104
    go_wp2_with (first | (go_at_call 139; (with_reducible refine C.out.mono ?_); rintro e w' ⟨rfl, hb⟩; have n0_ := Aside0.mk (below_step (by repeat (first | (with_reducible first | exact HB.out | apply below_alloc | apply pw_below_drewN | apply below_drew1) | exact HB.out)) hb); clear HB; have HB := n0_; clear n0_; (try clear hb)) | (go_at_call 56; (with_reducible refine (impl_within.calls n 0 999999999 true _ Aw.out).mono ?_); rintro e w' ⟨rfl, ⟨nd, rfl⟩⟩) | (go_at_call 140; (with_reducible refine (impl_DecText.calls n ts _ ?side1 As.out).mono ?_); (case side1 => exact Glob.below HGT.out (by repeat (first | (with_reducible first | exact HB.out | apply below_alloc | apply pw_below_drewN | apply below_drew1) | exact HB.out))); rintro e w3 ⟨rfl, hb⟩; have n0_ := Aside0.mk (below_step (by repeat (first | (with_reducible first | exact HB.out | apply below_alloc | apply pw_below_drewN | apply below_drew1) | exact HB.out)) hb); clear HB; have HB := n0_; clear n0_; (try clear hb)))
    go_ret
    exact ⟨by first | rfl | (simp; done), by repeat (first | (with_reducible first | exact HB.out | apply below_alloc | apply pw_below_drewN | apply below_drew1) | exact HB.out)⟩
 ·rw [ha] at h
  obtain rfl := Option.some.inj h
  have C0 := Any.strconv_Atoi_syntax_var Tryz.laysC172 a0 hc ha t1 p1 w e1
  have C1 : Calls Tryz.prog 139 #[.string a0] w fun e w' => ∃ N t, e = .returned (.tuple #[.int .i64 0, .iface t (.pointer (some ⟨N, 0, none⟩))]) ∧ Below w.heap.size w w' :=
   (show Calls Tryz.prog 139 _ _ _ from C0).mono fun e w' ⟨N, h1, _, _, h4⟩ => ⟨N, _, h1, h4⟩
  have C := Aside0.mk C1
  clear C0 C1
  clear ha e1 e2 h
  go_enter Tryz.func104, Tryz.ntmps104
  go_wp2_with (go_at_call 139; (with_reducible refine C.out.mono ?_); rintro e w' ⟨NE, TE, rfl, hb⟩; have n0_ := Aside0.mk (below_step (by repeat (first | (with_reducible first | exact HB.out | apply below_alloc | apply pw_below_drewN | apply below_drew1) | exact HB.out)) hb); clear HB; have HB := n0_; clear n0_; (try clear hb))
  go_ret
  exact ⟨by first | rfl | (simp; done), by repeat (first | (with_reducible first | exact HB.out | apply below_alloc | apply pw_below_drewN | apply below_drew1) | exact HB.out)⟩
 ·rw [ha] at h
  obtain rfl := Option.some.inj h
  have C := Aside0.mk (Tryz.strconv_Atoi_range_var a0 hc ha t2 p2 w e2)
  clear ha e1 e2 h
  go_enter Tryz.func104, Tryz.ntmps104
  go_wp2_with (go_at_call 139; (with_reducible refine C.out.mono ?_); rintro e w' ⟨NE, rfl, -, -, hb⟩; have n0_ := Aside0.mk (below_step (by repeat (first | (with_reducible first | exact HB.out | apply below_alloc | apply pw_below_drewN | apply below_drew1) | exact HB.out)) hb); clear HB; have HB := n0_; clear n0_; (try clear hb))
  go_ret
  exact ⟨by first | rfl | (simp; done), by repeat (first | (with_reducible first | exact HB.out | apply below_alloc | apply pw_below_drewN | apply below_drew1) | exact HB.out)⟩
def strings_Join.f (l0 : List ByteArray) (a1 : ByteArray) : Option ByteArray := if l0.length ≤ 140737488355328 ∧ (Lib.join (l0.map (·.data.toList)) a1.data.toList).length ≤ 140737488355328 then some ⟨(Lib.join (l0.map (·.data.toList)) a1.data.toList).toArray⟩ else none
theorem strings_Join.calls (A0 : Option Addr) (c0 : Nat) (l0 : List ByteArray) (a1 : ByteArray) (r : ByteArray) (w : World) (hr0 : Kd.C Kd.string w A0 l0.length l0) (hc0 : l0.length ≤ c0) (h : strings_Join.f l0 a1 = some r) :
  Calls Tryz.prog 44 #[.slice A0 l0.length c0, .string a1] w fun e w' => e = .returned (.string r) ∧ Below w.heap.size w w' := by
 unfold strings_Join.f at h
 by_cases hc : l0.length ≤ 140737488355328 ∧ (Lib.join (l0.map (·.data.toList)) a1.data.toList).length ≤ 140737488355328
 ·rw [if_pos hc] at h
  obtain rfl := Option.some.inj h
  cases l0 with
  | nil => exact (Tryz.strings_Join_none A0 c0 a1 w).mono fun e w' ⟨h1, h2⟩ => ⟨h1, h2 ▸ Below.refl _ _⟩
  | cons x l =>
   obtain ⟨ad, rfl, hcell⟩ := hr0.2.2 (by simp)
   have cell : ∀ (j : Nat) y, (x :: l)[j]? = some y → w.cell? (ad.add (j * 1 + 0)) = some (.string y) := by
    intro j y hy
    obtain ⟨cs, _, hk, hi⟩ := hcell j y hy
    have hk' : cs = [.string y] := hk
    subst hk'
    exact hi 0 _ rfl
   obtain ⟨b, o, sp⟩ := ad
   have hsp : sp = none := Go.Proofs.cell_spot (cell 0 x rfl)
   subst hsp
   have e : ∀ j, (⟨b, o, none⟩ : Addr).add (j * 1 + 0) = ⟨b, o + j, none⟩ := fun j => by unfold Addr.add; simp
   refine (Tryz.strings_Join b o c0 (x :: l) a1 w (fun j y hy => by rw [← e j]; exact cell j y hy) (World.block_lt_of_cell? w ⟨b, o + 0, none⟩ (by rw [← e 0]; exact cell 0 x rfl)) hc.1 hc0 hc.2).mono fun e w' ⟨h1, h2⟩ => ⟨h1, h2⟩
 ·rw [if_neg hc] at h; cases h
def impl_isDigit.f (a0 : Int) : Option (Bool) := if a0 ≥ 48 then (some (decide (a0 ≤ 57))) else (some false)
def impl_all__impl_isDigit.l0 : Nat → ByteArray → Int → Int → Option (Bool)
 | 0, _, _, _ => none
 | k + 1, x0, x7, x8 => if x8 < x7 then (if 0 ≤ x8 then (if x8 < (x0.size : Int) then ((impl_isDigit.f (bt x0 x8)).bind fun t106 => (if t106 = true then (impl_all__impl_isDigit.l0 k x0 x7 (wrap64 (x8 + 1))) else (some false))) else (none)) else (none)) else (some true)
def impl_all__impl_isDigit.f (k : Nat) (a0 : ByteArray)  : Option (Bool) := impl_all__impl_isDigit.l0 k a0 (a0.size : Int) 0
def impl_isNumber.f (k : Nat) (a0 : ByteArray) : Option (Bool) := if a0.toList = ([] : List UInt8) then (some false) else ((impl_all__impl_isDigit.f k a0).bind fun t107 => (some t107))
def impl_isLower.f (a0 : Int) : Option (Bool) := if a0 ≥ 97 then (some (decide (a0 ≤ 122))) else (some false)
def impl_isLetter.f (a0 : Int) : Option (Bool) := (impl_isLower.f a0).bind fun t103 => (if t103 = true then (some true) else (if a0 ≥ 65 then (some (decide (a0 ≤ 90))) else (some false)))
def impl_VersionOk_1.f (a0 : Int) : Option (Bool) := (impl_isLetter.f a0).bind fun t104 => (if t104 = true then (some true) else ((impl_isDigit.f a0).bind fun t105 => (if t105 = true then (some true) else (some (a0 == 45)))))
def impl_all__impl_VersionOk_1.l0 : Nat → ByteArray → Int → Int → Option (Bool)
 | 0, _, _, _ => none
 | k + 1, x0, x7, x8 => if x8 < x7 then (if 0 ≤ x8 then (if x8 < (x0.size : Int) then ((impl_VersionOk_1.f (bt x0 x8)).bind fun t108 => (if t108 = true then (impl_all__impl_VersionOk_1.l0 k x0 x7 (wrap64 (x8 + 1))) else (some false))) else (none)) else (none)) else (some true)
def impl_all__impl_VersionOk_1.f (k : Nat) (a0 : ByteArray)  : Option (Bool) := impl_all__impl_VersionOk_1.l0 k a0 (a0.size : Int) 0
mutual
def impl_VersionOk.l0 : Nat → List Int → Int → Int → Int → Int → Int → List ByteArray → Option (Bool)
 | 0, _, _, _, _, _, _, _ => none
 | k + 1, x13, x14, x15, x110000, x110001, x110002, x110003 => if x15 < x14 then (if 0 ≤ x15 then (if x15 < (x13.length : Int) then ((impl_within.f (rd x13 x15) 0 999999999).bind fun t114 => (if t114 = true then (impl_VersionOk.l0 k x13 x14 (wrap64 (x15 + 1)) x110000 x110001 x110002 x110003) else (some false))) else (none)) else (none)) else (impl_VersionOk.l1 k x110003 (x110003.length : Int) 0 x110000 x110001 x110002 x110003)
def impl_VersionOk.l1 : Nat → List ByteArray → Int → Int → Int → Int → Int → List ByteArray → Option (Bool)
 | 0, _, _, _, _, _, _, _ => none
 | k + 1, x24, x25, x26, x110000, x110001, x110002, x110003 => if x26 < x25 then (if 0 ≤ x26 then (if x26 < (x24.length : Int) then ((impl_within.f ((rdOf ByteArray.empty x24 x26).size : Int) 1 20).bind fun t116 => (if t116 = true then ((impl_all__impl_VersionOk_1.f k (rdOf ByteArray.empty x24 x26)).bind fun t117 => (if t117 = true then ((impl_isNumber.f k (rdOf ByteArray.empty x24 x26)).bind fun t118 => (if t118 = true then ((impl_ReadDec.f (rdOf ByteArray.empty x24 x26)).bind fun t119 => (if t119 < 0 then (some false) else (impl_VersionOk.l1 k x24 x25 (wrap64 (x26 + 1)) x110000 x110001 x110002 x110003))) else (impl_VersionOk.l1 k x24 x25 (wrap64 (x26 + 1)) x110000 x110001 x110002 x110003))) else (some false))) else (some false))) else (none)) else (none)) else (some (decide ((x110003.length : Int) ≤ 5)))
end
def impl_VersionOk.f (k : Nat) (a0_0 : Int) (a0_1 : Int) (a0_2 : Int) (l0_3 : List ByteArray) : Option (Bool) := (some (([a0_0, a0_1, a0_2] : List Int) : List Int)).bind fun y110 => (impl_VersionOk.l0 k y110 (y110.length : Int) 0 a0_0 a0_1 a0_2 l0_3)
def impl_VersionText.f (k : Nat) (a0_0 : Int) (a0_1 : Int) (a0_2 : Int) (l0_3 : List ByteArray) : Option (ByteArray) := (impl_VersionOk.f k a0_0 a0_1 a0_2 l0_3).bind fun t121 => (if t121 = true then ((impl_DecText.f a0_0).bind fun t122 => (if t122.size + 1 ≤ 9223372036854775807 then ((impl_DecText.f a0_1).bind fun t123 => (if (t122 ++ (⟨#[46]⟩ : ByteArray)).size + t123.size ≤ 9223372036854775807 then (if ((t122 ++ (⟨#[46]⟩ : ByteArray)) ++ t123).size + 1 ≤ 9223372036854775807 then ((impl_DecText.f a0_2).bind fun t124 => (if (((t122 ++ (⟨#[46]⟩ : ByteArray)) ++ t123) ++ (⟨#[46]⟩ : ByteArray)).size + t124.size ≤ 9223372036854775807 then (if (l0_3.length : Int) > 0 then ((strings_Join.f l0_3 (⟨#[46]⟩ : ByteArray)).bind fun t125 => (if 1 + t125.size ≤ 9223372036854775807 then (if ((((t122 ++ (⟨#[46]⟩ : ByteArray)) ++ t123) ++ (⟨#[46]⟩ : ByteArray)) ++ t124).size + ((⟨#[45]⟩ : ByteArray) ++ t125).size ≤ 9223372036854775807 then (some (((((t122 ++ (⟨#[46]⟩ : ByteArray)) ++ t123) ++ (⟨#[46]⟩ : ByteArray)) ++ t124) ++ ((⟨#[45]⟩ : ByteArray) ++ t125))) else (none)) else (none))) else (some ((((t122 ++ (⟨#[46]⟩ : ByteArray)) ++ t123) ++ (⟨#[46]⟩ : ByteArray)) ++ t124))) else (none))) else (none)) else (none))) else (none))) else (some (⟨#[]⟩ : ByteArray)))
def impl_ReadVersion.f (k : Nat) (a0 : ByteArray) : Option (Int × Int × Int × List ByteArray × Bool) := (strings_Cut.f a0 (⟨#[45]⟩ : ByteArray)).bind fun bt127 => ((strings_Split.f bt127.1 (⟨#[46]⟩ : ByteArray)).bind fun t130 => (if (t130.length : Int) = 3 then (if 0 < (t130.length : Int) then ((impl_ReadDec.f (rdOf ByteArray.empty t130 0)).bind fun t134 => (if 1 < (t130.length : Int) then ((impl_ReadDec.f (rdOf ByteArray.empty t130 1)).bind fun t136 => (if 2 < (t130.length : Int) then ((impl_ReadDec.f (rdOf ByteArray.empty t130 2)).bind fun t138 => (if bt127.2.2 = true then ((strings_Split.f bt127.2.1 (⟨#[46]⟩ : ByteArray)).bind fun t140 => ((impl_VersionText.f k t134 t136 t138 t140).bind fun t143 => (if t143.toList = a0.toList then (if a0.toList = ([] : List UInt8) then (some (0, 0, 0, ([] : List ByteArray), false)) else (some (t134, t136, t138, t140, true))) else (some (0, 0, 0, ([] : List ByteArray), false))))) else ((impl_VersionText.f k t134 t136 t138 ([] : List ByteArray)).bind fun t144 => (if t144.toList = a0.toList then (if a0.toList = ([] : List UInt8) then (some (0, 0, 0, ([] : List ByteArray), false)) else (some (t134, t136, t138, ([] : List ByteArray), true))) else (some (0, 0, 0, ([] : List ByteArray), false)))))) else (none))) else (none))) else (none)) else (some (0, 0, 0, ([] : List ByteArray), false))))
def slices_Clone_string_string.f (l0 : List ByteArray) : Option (List ByteArray) := if l0.length * 16 ≤ 140737488355328 then some l0 else none
theorem slices_Clone_string_string.calls (A0 : Option Addr) (c0 : Nat) (l0 : List ByteArray) (r : List ByteArray) (w : World) (hr0 : Kd.C Kd.string w A0 l0.length l0) (hc0 : l0.length ≤ c0) (h : slices_Clone_string_string.f l0 = some r) :
  Calls Tryz.prog 75 #[.slice A0 l0.length c0] w fun e w' => ∃ v0_ : Value, e = .returned (v0_) ∧ Kd.R Kd.string 9 w' w.heap.size (fun _ => True) v0_ r ∧ Below w.heap.size w w' := by
 unfold slices_Clone_string_string.f at h
 by_cases hc : l0.length * 16 ≤ 140737488355328
 ·rw [if_pos hc] at h
  obtain rfl := Option.some.inj h
  cases l0 with
  | nil =>
   cases A0 with
   | none => exact (Tryz.slices_Clone_string_nil 0 c0 w).mono fun e w' ⟨h1, h2⟩ => ⟨_, h1, h2 ▸ Kd.R_nil _ _ _ _ _, h2 ▸ Below.refl _ _⟩
   | some a => exact (Tryz.slices_Clone_string_zero a c0 w).mono fun e w' ⟨v, h1, h2, _, h3⟩ => ⟨v, h1, Kd.R_of_own h2 (fun _ _ => trivial), h3⟩
  | cons x l =>
   obtain ⟨ad, rfl, hcell⟩ := hr0.2.2 (by simp)
   have cell : ∀ (j : Nat) y, (x :: l)[j]? = some y → w.cell? (ad.add (j * 1 + 0)) = some (.string y) := by
    intro j y hy
    obtain ⟨cs, _, hk, hi⟩ := hcell j y hy
    have hk' : cs = [.string y] := hk
    subst hk'
    exact hi 0 _ rfl
   obtain ⟨b, o, sp⟩ := ad
   have hsp : sp = none := Go.Proofs.cell_spot (cell 0 x rfl)
   subst hsp
   have e : ∀ j, (⟨b, o, none⟩ : Addr).add (j * 1 + 0) = ⟨b, o + j, none⟩ := fun j => by unfold Addr.add; simp
   refine (Tryz.slices_Clone_string b o (x :: l).length c0 (x :: l) w (Nat.le_refl _) hc (fun j hj => by rw [← e j]; refine cell j _ ?_; rw [List.getD_eq_getElem?_getD, List.getElem?_eq_getElem hj]; rfl)).mono fun e w' ⟨v, h1, h2, _, h3⟩ => ⟨v, h1, Kd.R_of_own ?_ (fun _ _ => trivial), h3⟩
   rw [List.take_length] at h2; exact h2
 ·rw [if_neg hc] at h; cases h
def impl_zeroPre.f (k : Nat) (a0 : Int) (a1 : Int) (a2 : Int) : Option (ByteArray) := (impl_VersionText.f k a0 a1 a2 (([(⟨#[48]⟩ : ByteArray)] : List ByteArray))).bind fun t148 => (some t148)
def impl_alone.f (k : Nat) (a0_0 : Int) (a0_1 : Int) (a0_2 : Int) (l0_3 : List ByteArray) : Option (ByteArray × ByteArray) := (impl_zeroPre.f k a0_0 a0_1 (wrap64 (a0_2 + 1))).bind fun t151 => (if (l0_3.length : Int) > 0 then ((slices_Clone_string_string.f l0_3).bind fun t153 => (if t153.length < 8796093022208 then ((impl_VersionText.f k a0_0 a0_1 a0_2 (t153 ++ [(⟨#[48]⟩ : ByteArray)])).bind fun t159 => ((impl_VersionText.f k a0_0 a0_1 a0_2 l0_3).bind fun t160 => (some (t160, t159)))) else (none))) else ((impl_VersionText.f k a0_0 a0_1 a0_2 l0_3).bind fun t161 => (some (t161, t151))))
def impl_Exact.f (k : Nat) (a0 : ByteArray) : Option ((List (S67))) := (impl_ReadVersion.f k a0).bind fun bt162 => ((impl_alone.f k bt162.1 bt162.2.1 bt162.2.2.1 bt162.2.2.2.1).bind fun bt170 => (if bt162.2.2.2.2 = true then (if bt170.2.toList = ([] : List UInt8) then (some ([] : List (S67))) else (some (([(⟨bt170.1, bt170.2⟩ : S67)] : List (S67))))) else (some ([] : List (S67)))))
def strings_HasPrefix.f (a0 : ByteArray) (a1 : ByteArray) : Option Bool := some (Lib.hasPrefix a0.data.toList a1.data.toList)
theorem strings_HasPrefix.calls (a0 : ByteArray) (a1 : ByteArray) (r : Bool) (w : World) (h : strings_HasPrefix.f a0 a1 = some r) :
  Calls Tryz.prog 49 #[.string a0, .string a1] w fun e w' => e = .returned (.bool r) ∧ Drawn0 w w' := by
 obtain rfl := Option.some.inj h
 exact (Tryz.strings_HasPrefix a0 a1 w).mono fun e w' ⟨h1, h2⟩ => ⟨h1, h2 ▸ Drawn0.refl _⟩
def strings_TrimPrefix.f (a0 : ByteArray) (a1 : ByteArray) : Option ByteArray := some ⟨(Lib.trimPrefix a0.data.toList a1.data.toList).toArray⟩
theorem strings_TrimPrefix.calls (a0 : ByteArray) (a1 : ByteArray) (r : ByteArray) (w : World) (h : strings_TrimPrefix.f a0 a1 = some r) :
  Calls Tryz.prog 187 #[.string a0, .string a1] w fun e w' => e = .returned (.string r) ∧ Drawn0 w w' := by
 obtain rfl := Option.some.inj h
 exact (Tryz.strings_TrimPrefix a0 a1 w).mono fun e w' ⟨h1, h2⟩ => ⟨h1, h2 ▸ Drawn0.refl _⟩
def impl_NameOk_1.f (a0 : Int) : Option (Bool) := (impl_isLower.f a0).bind fun t176 => (if t176 = true then (some true) else ((impl_isDigit.f a0).bind fun t177 => (if t177 = true then (some true) else (if a0 = 46 then (some true) else (if a0 = 95 then (some true) else (some (a0 == 45)))))))
def impl_all__impl_NameOk_1.l0 : Nat → ByteArray → Int → Int → Option (Bool)
 | 0, _, _, _ => none
 | k + 1, x0, x7, x8 => if x8 < x7 then (if 0 ≤ x8 then (if x8 < (x0.size : Int) then ((impl_NameOk_1.f (bt x0 x8)).bind fun t178 => (if t178 = true then (impl_all__impl_NameOk_1.l0 k x0 x7 (wrap64 (x8 + 1))) else (some false))) else (none)) else (none)) else (some true)
def impl_all__impl_NameOk_1.f (k : Nat) (a0 : ByteArray)  : Option (Bool) := impl_all__impl_NameOk_1.l0 k a0 (a0.size : Int) 0
def impl_NameOk.l0 : Nat → ByteArray → Bool → List ByteArray → Int → Int → Option (Bool)
 | 0, _, _, _, _, _ => none
 | k + 1, x0, x3, x10, x11, x12 => if x12 < x11 then (if 0 ≤ x12 then (if x12 < (x10.length : Int) then (if (rdOf ByteArray.empty x10 x12).toList = ([] : List UInt8) then (some false) else (if (rdOf ByteArray.empty x10 x12).toList = ([110, 111, 100, 101, 95, 109, 111, 100, 117, 108, 101, 115] : List UInt8) then (if x3 = true then (if x12 = 0 then ((impl_all__impl_NameOk_1.f k (rdOf ByteArray.empty x10 x12)).bind fun t185 => (if t185 = true then (impl_NameOk.l0 k x0 x3 x10 x11 (wrap64 (x12 + 1))) else (some false))) else (some false)) else (some false)) else ((impl_all__impl_NameOk_1.f k (rdOf ByteArray.empty x10 x12)).bind fun t186 => (if t186 = true then (impl_NameOk.l0 k x0 x3 x10 x11 (wrap64 (x12 + 1))) else (some false))))) else (none)) else (none)) else (some (decide ((x0.size : Int) ≤ 60)))
def impl_NameOk.f (k : Nat) (a0 : ByteArray) : Option (Bool) := (strings_HasPrefix.f a0 (⟨#[64]⟩ : ByteArray)).bind fun t179 => ((strings_TrimPrefix.f a0 (⟨#[64]⟩ : ByteArray)).bind fun t180 => ((strings_Split.f t180 (⟨#[47]⟩ : ByteArray)).bind fun t181 => (impl_NameOk.l0 k a0 t179 t181 (t181.length : Int) 0)))
def impl_PlainOk_1.f (a0 : Int) : Option (Bool) := if a0 ≥ 33 then (if a0 ≤ 126 then (if a0 = 34 then (some false) else (if a0 = 39 then (some false) else (if a0 = 44 then (some false) else (some (a0 != 92))))) else (some false)) else (some false)
def impl_all__impl_PlainOk_1.l0 : Nat → ByteArray → Int → Int → Option (Bool)
 | 0, _, _, _ => none
 | k + 1, x0, x7, x8 => if x8 < x7 then (if 0 ≤ x8 then (if x8 < (x0.size : Int) then ((impl_PlainOk_1.f (bt x0 x8)).bind fun t187 => (if t187 = true then (impl_all__impl_PlainOk_1.l0 k x0 x7 (wrap64 (x8 + 1))) else (some false))) else (none)) else (none)) else (some true)
def impl_all__impl_PlainOk_1.f (k : Nat) (a0 : ByteArray)  : Option (Bool) := impl_all__impl_PlainOk_1.l0 k a0 (a0.size : Int) 0
def impl_PlainOk.f (k : Nat) (a0 : ByteArray) : Option (Bool) := if (a0.size : Int) ≤ 100 then ((impl_all__impl_PlainOk_1.f k a0).bind fun t188 => (some t188)) else (some false)
def impl_sumLength.j0 : Nat → ByteArray → Bool → Option (Int)
 | 0, _, _ => none
 | k + 1, x3, x6 => if x6 = true then (some 32) else (if x3.toList = ([115, 104, 97, 53, 49, 50] : List UInt8) then (some 64) else (some (-1)))
def impl_sumLength.f (k : Nat) (a0 : ByteArray) : Option (Int) := if a0.toList = ([115, 104, 97, 49] : List UInt8) then (some 20) else (if a0.toList = ([115, 104, 97, 50, 53, 54] : List UInt8) then (impl_sumLength.j0 k a0 (a0.toList == ([115, 104, 97, 50, 53, 54] : List UInt8))) else (impl_sumLength.j0 k a0 (a0.toList == ([104, 49] : List UInt8))))
def impl_areSums.l0 : Nat → List (S130) → List (S130) → Int → Int → Option (Bool)
 | 0, _, _, _, _ => none
 | k + 1, x0, x5, x6, x7 => if x7 < x6 then (if 0 ≤ x7 then (if x7 < (x5.length : Int) then ((impl_sumLength.f k ((rd_T130 x5 x7).f0)).bind fun t191 => (if (((rd_T130 x5 x7).f1).size : Int) = t191 then (if x7 > 0 then (if 0 ≤ (wrap64 (x7 - 1)) then (if (wrap64 (x7 - 1)) < (x0.length : Int) then (if ((Op.bytesLess (((rd_T130 x0 (wrap64 (x7 - 1))).f0).toList) (((rd_T130 x5 x7).f0).toList)) = true) then (impl_areSums.l0 k x0 x5 x6 (wrap64 (x7 + 1))) else (some false)) else (none)) else (none)) else (impl_areSums.l0 k x0 x5 x6 (wrap64 (x7 + 1)))) else (some false))) else (none)) else (none)) else (some true)
def impl_areSums.f (k : Nat) (l0 : List (S130)) : Option (Bool) := impl_areSums.l0 k l0 l0 (l0.length : Int) 0
def impl_PackOk.f (k : Nat) (a0_0 : ByteArray) (a0_1 : ByteArray) (a0_2 : ByteArray) (l0_3 : List (S130)) (a0_4 : Bool) (l0_5 : List ByteArray) : Option (Bool) := (impl_NameOk.f k a0_0).bind fun t194 => (if t194 = true then ((impl_Exact.f k a0_1).bind fun t195 => (if (t195.length : Int) > 0 then ((impl_PlainOk.f k a0_2).bind fun t198 => (if t198 = true then ((impl_areSums.f k l0_3).bind fun t199 => (some t199)) else (some false))) else (some false))) else (some false))
def impl_Find_1.f (key : ByteArray) (a0_0 : ByteArray) (a0_1 : ByteArray) (a0_2 : ByteArray) (l0_3 : List (S130)) (a0_4 : Bool) (l0_5 : List ByteArray) : Option (Bool) := (impl_KeyOf.f a0_0 a0_1 a0_2 l0_3 a0_4 l0_5).bind fun t201 => (some (t201.toList == key.toList))
def impl_Pack__impl_Find_1.l0 (key : ByteArray) : Nat → List (S47) → Int → Int → Option (Int)
 | 0, _, _, _ => none
 | k + 1, x0, x7, x8 => if x8 < x7 then (if 0 ≤ x8 then (if x8 < (x0.length : Int) then ((impl_Find_1.f key ((rd_T47 x0 x8).f0) ((rd_T47 x0 x8).f1) ((rd_T47 x0 x8).f2) ((rd_T47 x0 x8).f3) ((rd_T47 x0 x8).f4) ((rd_T47 x0 x8).f5)).bind fun t203 => (if t203 = true then (some x8) else (impl_Pack__impl_Find_1.l0 key k x0 x7 (wrap64 (x8 + 1))))) else (none)) else (none)) else (some (-1))
def impl_Pack__impl_Find_1.f (key : ByteArray) (k : Nat) (l0 : List (S47))  : Option (Int) := impl_Pack__impl_Find_1.l0 key k l0 (l0.length : Int) 0
def impl_Find.f (k : Nat) (l0_0 : List ByteArray) (l0_1 : List (S47)) (a1 : ByteArray) : Option (Int) := (impl_Pack__impl_Find_1.f a1 k l0_1).bind fun t205 => (some t205)
def impl_areKeys.l0 : Nat → List ByteArray → List ByteArray → Int → Int → List ByteArray → List (S47) → Option (Bool)
 | 0, _, _, _, _, _, _ => none
 | k + 1, x1, x7, x8, x9, x207000, x207001 => if x9 < x8 then (if 0 ≤ x9 then (if x9 < (x7.length : Int) then ((impl_Find.f k x207000 x207001 (rdOf ByteArray.empty x7 x9)).bind fun t208 => (if t208 < 0 then (some false) else (if x9 > 0 then (if 0 ≤ (wrap64 (x9 - 1)) then (if (wrap64 (x9 - 1)) < (x1.length : Int) then (if ((Op.bytesLess ((rdOf ByteArray.empty x1 (wrap64 (x9 - 1))).toList) ((rdOf ByteArray.empty x7 x9).toList)) = true) then (impl_areKeys.l0 k x1 x7 x8 (wrap64 (x9 + 1)) x207000 x207001) else (some false)) else (none)) else (none)) else (impl_areKeys.l0 k x1 x7 x8 (wrap64 (x9 + 1)) x207000 x207001)))) else (none)) else (none)) else (some true)
def impl_areKeys.f (k : Nat) (l0_0 : List ByteArray) (l0_1 : List (S47)) (l1 : List ByteArray) : Option (Bool) := impl_areKeys.l0 k l1 l1 (l1.length : Int) 0 l0_0 l0_1
def impl_GraphOk.l0 : Nat → List (S47) → Int → Int → List ByteArray → List (S47) → Option (Bool)
 | 0, _, _, _, _, _ => none
 | k + 1, x6, x7, x8, x211000, x211001 => if x8 < x7 then (if 0 ≤ x8 then (if x8 < (x6.length : Int) then ((impl_PackOk.f k ((rd_T47 x6 x8).f0) ((rd_T47 x6 x8).f1) ((rd_T47 x6 x8).f2) ((rd_T47 x6 x8).f3) ((rd_T47 x6 x8).f4) ((rd_T47 x6 x8).f5)).bind fun t214 => (if t214 = true then (if x8 > 0 then ((impl_KeyOf.f ((rd_T47 x6 x8).f0) ((rd_T47 x6 x8).f1) ((rd_T47 x6 x8).f2) ((rd_T47 x6 x8).f3) ((rd_T47 x6 x8).f4) ((rd_T47 x6 x8).f5)).bind fun t215 => (if 0 ≤ (wrap64 (x8 - 1)) then (if (wrap64 (x8 - 1)) < (x211001.length : Int) then ((impl_KeyOf.f ((rd_T47 x211001 (wrap64 (x8 - 1))).f0) ((rd_T47 x211001 (wrap64 (x8 - 1))).f1) ((rd_T47 x211001 (wrap64 (x8 - 1))).f2) ((rd_T47 x211001 (wrap64 (x8 - 1))).f3) ((rd_T47 x211001 (wrap64 (x8 - 1))).f4) ((rd_T47 x211001 (wrap64 (x8 - 1))).f5)).bind fun t217 => (if ((Op.bytesLess t217.toList t215.toList) = true) then ((impl_areKeys.f k x211000 x211001 ((rd_T47 x6 x8).f5)).bind fun t218 => (if t218 = true then (impl_GraphOk.l0 k x6 x7 (wrap64 (x8 + 1)) x211000 x211001) else (some false))) else (some false))) else (none)) else (none))) else ((impl_areKeys.f k x211000 x211001 ((rd_T47 x6 x8).f5)).bind fun t219 => (if t219 = true then (impl_GraphOk.l0 k x6 x7 (wrap64 (x8 + 1)) x211000 x211001) else (some false)))) else (some false))) else (none)) else (none)) else (if (x211001.length : Int) ≤ 40 then ((impl_areKeys.f k x211000 x211001 x211000).bind fun t211 => (some t211)) else (some false))
def impl_GraphOk.f (k : Nat) (l0_0 : List ByteArray) (l0_1 : List (S47)) : Option (Bool) := impl_GraphOk.l0 k l0_1 (l0_1.length : Int) 0 l0_0 l0_1
def slices_Index_string_string.l0 : Nat → List ByteArray → ByteArray → Int → Int → Option (Int)
 | 0, _, _, _, _ => none
 | k + 1, x0, x1, x7, x8 => if x8 < x7 then (if 0 ≤ x8 then (if x8 < (x0.length : Int) then (if x1.toList = (rdOf ByteArray.empty x0 x8).toList then (some x8) else (slices_Index_string_string.l0 k x0 x1 x7 (wrap64 (x8 + 1)))) else (none)) else (none)) else (some (-1))
def slices_Index_string_string.f (k : Nat) (l0 : List ByteArray) (a1 : ByteArray) : Option (Int) := slices_Index_string_string.l0 k l0 a1 (l0.length : Int) 0
def slices_Contains_string_string.f (k : Nat) (l0 : List ByteArray) (a1 : ByteArray) : Option (Bool) := (slices_Index_string_string.f k l0 a1).bind fun t535 => (some (decide (t535 ≥ 0)))
def impl_Order_1_1.f (key : List ByteArray) (k : Nat) (a0 : ByteArray) : Option (Bool) := (slices_Contains_string_string.f k key a0).bind fun t6 => (some (!t6))
def slices_IndexFunc_string__impl_Order_1_1.l0 (key : List ByteArray) : Nat → List ByteArray → Int → Int → Option (Int)
 | 0, _, _, _ => none
 | k + 1, x0, x7, x8 => if x8 < x7 then (if 0 ≤ x8 then (if x8 < (x0.length : Int) then ((impl_Order_1_1.f key k (rdOf ByteArray.empty x0 x8)).bind fun t16 => (if t16 = true then (some x8) else (slices_IndexFunc_string__impl_Order_1_1.l0 key k x0 x7 (wrap64 (x8 + 1))))) else (none)) else (none)) else (some (-1))
def slices_IndexFunc_string__impl_Order_1_1.f (key : List ByteArray) (k : Nat) (l0 : List ByteArray) : Option (Int) := slices_IndexFunc_string__impl_Order_1_1.l0 key k l0 (l0.length : Int) 0
def slices_ContainsFunc_string__impl_Order_1_1.f (key : List ByteArray) (k : Nat) (l0 : List ByteArray) : Option (Bool) := (slices_IndexFunc_string__impl_Order_1_1.f key k l0).bind fun t7 => (some (decide (t7 ≥ 0)))
def impl_Order_1.f (key : List ByteArray) (k : Nat) (a0_0 : ByteArray) (a0_1 : ByteArray) (a0_2 : ByteArray) (l0_3 : List (S130)) (a0_4 : Bool) (l0_5 : List ByteArray) : Option (Bool) := (impl_KeyOf.f a0_0 a0_1 a0_2 l0_3 a0_4 l0_5).bind fun t6 => ((slices_Contains_string_string.f k key t6).bind fun t7 => (if t7 = true then (some false) else ((slices_ContainsFunc_string__impl_Order_1_1.f key k l0_5).bind fun t13 => (some (!t13)))))
def impl_Pack__impl_Order_1.l0 (key : List ByteArray) : Nat → List (S47) → Int → Int → Option (Int)
 | 0, _, _, _ => none
 | k + 1, x0, x7, x8 => if x8 < x7 then (if 0 ≤ x8 then (if x8 < (x0.length : Int) then ((impl_Order_1.f key k ((rd_T47 x0 x8).f0) ((rd_T47 x0 x8).f1) ((rd_T47 x0 x8).f2) ((rd_T47 x0 x8).f3) ((rd_T47 x0 x8).f4) ((rd_T47 x0 x8).f5)).bind fun t16 => (if t16 = true then (some x8) else (impl_Pack__impl_Order_1.l0 key k x0 x7 (wrap64 (x8 + 1))))) else (none)) else (none)) else (some (-1))
def impl_Pack__impl_Order_1.f (key : List ByteArray) (k : Nat) (l0 : List (S47))  : Option (Int) := impl_Pack__impl_Order_1.l0 key k l0 (l0.length : Int) 0
def impl_Order.l0 : Nat → Int → Int → List ByteArray → List (S47) → List ByteArray → Option (List ByteArray × Bool)
 | 0, _, _, _, _, _ => none
 | k + 1, x12, x13, x100000, x100001, x200000 => if x13 < x12 then ((impl_Pack__impl_Order_1.f x200000 k x100001).bind fun t18 => (if t18 < 0 then (some (x200000, false)) else (if 0 ≤ t18 then (if t18 < (x100001.length : Int) then ((impl_KeyOf.f ((rd_T47 x100001 t18).f0) ((rd_T47 x100001 t18).f1) ((rd_T47 x100001 t18).f2) ((rd_T47 x100001 t18).f3) ((rd_T47 x100001 t18).f4) ((rd_T47 x100001 t18).f5)).bind fun t28 => (if x200000.length < 8796093022207 then (impl_Order.l0 k x12 (wrap64 (x13 + 1)) x100000 x100001 (x200000 ++ [t28])) else (none))) else (none)) else (none)))) else (some (x200000, true))
def impl_Order.f (k : Nat) (l0_0 : List ByteArray) (l0_1 : List (S47)) : Option (List ByteArray × Bool) := (impl_GraphOk.f k l0_0 l0_1).bind fun t7 => (if t7 = true then (impl_Order.l0 k (l0_1.length : Int) 0 l0_0 l0_1 ([] : List ByteArray)) else (some (([] : List ByteArray), false)))
def spec_KeyOf.f (a0_0 : ByteArray) (a0_1 : ByteArray) (a0_2 : ByteArray) (l0_3 : List (S130)) (a0_4 : Bool) (l0_5 : List ByteArray) : Option (ByteArray) := if a0_0.size + 1 ≤ 9223372036854775807 then (if (a0_0 ++ (⟨#[64]⟩ : ByteArray)).size + a0_1.size ≤ 9223372036854775807 then (some ((a0_0 ++ (⟨#[64]⟩ : ByteArray)) ++ a0_1)) else (none)) else (none)
def spec_l01In.f (a0 : Int) (a1 : Int) (a2 : Int) : Option (Bool) := if a0 ≥ a1 then (some (decide (a0 ≤ a2))) else (some false)
def spec_DecText.l0 : Nat → Int → ByteArray → Int → Option (ByteArray)
 | 0, _, _, _ => none
 | k + 1, x0, x3, x4 => if x4 = 0 then (if x0 < 0 then (if 1 + x3.size ≤ 9223372036854775807 then (some ((⟨#[45]⟩ : ByteArray) ++ x3)) else (none)) else (some x3)) else (if (Int.tmod x4 10) < 0 then (if 0 ≤ (wrap64 (-(Int.tmod x4 10))) then (if (wrap64 (-(Int.tmod x4 10))) ≤ (wrap64 ((wrap64 (-(Int.tmod x4 10))) + 1)) then (if (wrap64 ((wrap64 (-(Int.tmod x4 10))) + 1)) ≤ 10 then (if ((⟨#[48, 49, 50, 51, 52, 53, 54, 55, 56, 57]⟩ : ByteArray).extract ((wrap64 (-(Int.tmod x4 10))) : Int).toNat ((wrap64 ((wrap64 (-(Int.tmod x4 10))) + 1)) : Int).toNat).size + x3.size ≤ 9223372036854775807 then (spec_DecText.l0 k x0 (((⟨#[48, 49, 50, 51, 52, 53, 54, 55, 56, 57]⟩ : ByteArray).extract ((wrap64 (-(Int.tmod x4 10))) : Int).toNat ((wrap64 ((wrap64 (-(Int.tmod x4 10))) + 1)) : Int).toNat) ++ x3) (wrap64 (Int.tdiv x4 10))) else (none)) else (none)) else (none)) else (none)) else (if 0 ≤ (Int.tmod x4 10) then (if (Int.tmod x4 10) ≤ (wrap64 ((Int.tmod x4 10) + 1)) then (if (wrap64 ((Int.tmod x4 10) + 1)) ≤ 10 then (if ((⟨#[48, 49, 50, 51, 52, 53, 54, 55, 56, 57]⟩ : ByteArray).extract ((Int.tmod x4 10) : Int).toNat ((wrap64 ((Int.tmod x4 10) + 1)) : Int).toNat).size + x3.size ≤ 9223372036854775807 then (spec_DecText.l0 k x0 (((⟨#[48, 49, 50, 51, 52, 53, 54, 55, 56, 57]⟩ : ByteArray).extract ((Int.tmod x4 10) : Int).toNat ((wrap64 ((Int.tmod x4 10) + 1)) : Int).toNat) ++ x3) (wrap64 (Int.tdiv x4 10))) else (none)) else (none)) else (none)) else (none)))
def spec_DecText.f (k : Nat) (a0 : Int) : Option (ByteArray) := if a0 = 0 then (some (⟨#[48]⟩ : ByteArray)) else (spec_DecText.l0 k a0 (⟨#[]⟩ : ByteArray) a0)
def spec_ReadDec.l0 : Nat → ByteArray → Int → Int → Option (Int)
 | 0, _, _, _ => none
 | k + 1, x0, x3, x4 => if x4 < (x0.size : Int) then (if 0 ≤ x4 then ((spec_l01In.f (wrap64 (bt x0 x4)) 48 57).bind fun t207 => (if t207 = true then (if (x0.size : Int) > 9 then (some (-1)) else (spec_ReadDec.l0 k x0 (wrap64 ((wrap64 ((wrap64 (10 * x3)) + (wrap64 (bt x0 x4)))) - 48)) (wrap64 (x4 + 1)))) else (some (-1)))) else (none)) else (if x0.toList = ([] : List UInt8) then (some (-1)) else ((spec_DecText.f k x3).bind fun t208 => (if t208.toList = x0.toList then (some x3) else (some (-1)))))
def spec_ReadDec.f (k : Nat) (a0 : ByteArray) : Option (Int) := spec_ReadDec.l0 k a0 0 0
def spec_l01Letter.f (a0 : Int) : Option (Bool) := (spec_l01In.f (wrap64 (a0)) 97 122).bind fun t209 => (if t209 = true then (some true) else ((spec_l01In.f (wrap64 (a0)) 48 57).bind fun t210 => (some t210)))
def spec_l01Great.f (a0 : Int) : Option (Bool) := (spec_l01In.f (wrap64 (a0)) 65 90).bind fun t211 => (some t211)
def spec_l02Digits.l0 : Nat → ByteArray → Int → Option (Bool)
 | 0, _, _ => none
 | k + 1, x0, x3 => if x3 < (x0.size : Int) then (if 0 ≤ x3 then ((spec_l01In.f (wrap64 (bt x0 x3)) 48 57).bind fun t212 => (if t212 = true then (spec_l02Digits.l0 k x0 (wrap64 (x3 + 1))) else (some false))) else (none)) else (some (x0.toList != ([] : List UInt8)))
def spec_l02Digits.f (k : Nat) (a0 : ByteArray) : Option (Bool) := spec_l02Digits.l0 k a0 0
def spec_l02Pre.l0 : Nat → ByteArray → Int → Option (Bool)
 | 0, _, _ => none
 | k + 1, x0, x3 => if x3 < (x0.size : Int) then (if 0 ≤ x3 then ((spec_l01Letter.f (bt x0 x3)).bind fun t216 => (if t216 = true then (spec_l02Pre.l0 k x0 (wrap64 (x3 + 1))) else ((spec_l01Great.f (bt x0 x3)).bind fun t217 => (if t217 = true then (spec_l02Pre.l0 k x0 (wrap64 (x3 + 1))) else (if (bt x0 x3) = 45 then (spec_l02Pre.l0 k x0 (wrap64 (x3 + 1))) else (some false)))))) else (none)) else ((spec_l01In.f (x0.size : Int) 1 20).bind fun t213 => (if t213 = true then ((spec_l02Digits.f k x0).bind fun t214 => (if t214 = true then ((spec_ReadDec.f k x0).bind fun t215 => (some (decide (t215 ≥ 0)))) else (some true))) else (some false)))
def spec_l02Pre.f (k : Nat) (a0 : ByteArray) : Option (Bool) := spec_l02Pre.l0 k a0 0
def spec_VersionOk.l0 : Nat → Int → Int → Int → Int → List ByteArray → Option (Bool)
 | 0, _, _, _, _, _ => none
 | k + 1, x3, x219000, x219001, x219002, x219003 => if x3 < (x219003.length : Int) then (if 0 ≤ x3 then ((spec_l02Pre.f k (rdOf ByteArray.empty x219003 x3)).bind fun t220 => (if t220 = true then (spec_VersionOk.l0 k (wrap64 (x3 + 1)) x219000 x219001 x219002 x219003) else (some false))) else (none)) else ((spec_l01In.f x219000 0 999999999).bind fun t221 => (if t221 = true then ((spec_l01In.f x219001 0 999999999).bind fun t222 => (if t222 = true then ((spec_l01In.f x219002 0 999999999).bind fun t223 => (if t223 = true then (some (decide ((x219003.length : Int) ≤ 5))) else (some false))) else (some false))) else (some false)))
def spec_VersionOk.f (k : Nat) (a0_0 : Int) (a0_1 : Int) (a0_2 : Int) (l0_3 : List ByteArray) : Option (Bool) := spec_VersionOk.l0 k 0 a0_0 a0_1 a0_2 l0_3
def spec_VersionText.l0 : Nat → ByteArray → Int → Int → Int → Int → List ByteArray → Option (ByteArray)
 | 0, _, _, _, _, _, _ => none
 | k + 1, x3, x4, x225000, x225001, x225002, x225003 => if x4 < (x225003.length : Int) then (if x4 = 0 then (if x3.size + 1 ≤ 9223372036854775807 then (if 0 ≤ x4 then (if (x3 ++ (⟨#[45]⟩ : ByteArray)).size + (rdOf ByteArray.empty x225003 x4).size ≤ 9223372036854775807 then (spec_VersionText.l0 k ((x3 ++ (⟨#[45]⟩ : ByteArray)) ++ (rdOf ByteArray.empty x225003 x4)) (wrap64 (x4 + 1)) x225000 x225001 x225002 x225003) else (none)) else (none)) else (none)) else (if x3.size + 1 ≤ 9223372036854775807 then (if 0 ≤ x4 then (if (x3 ++ (⟨#[46]⟩ : ByteArray)).size + (rdOf ByteArray.empty x225003 x4).size ≤ 9223372036854775807 then (spec_VersionText.l0 k ((x3 ++ (⟨#[46]⟩ : ByteArray)) ++ (rdOf ByteArray.empty x225003 x4)) (wrap64 (x4 + 1)) x225000 x225001 x225002 x225003) else (none)) else (none)) else (none))) else (some x3)
def spec_VersionText.f (k : Nat) (a0_0 : Int) (a0_1 : Int) (a0_2 : Int) (l0_3 : List ByteArray) : Option (ByteArray) := (spec_VersionOk.f k a0_0 a0_1 a0_2 l0_3).bind fun t225 => (if t225 = true then ((spec_DecText.f k a0_0).bind fun t226 => (if t226.size + 1 ≤ 9223372036854775807 then ((spec_DecText.f k a0_1).bind fun t227 => (if (t226 ++ (⟨#[46]⟩ : ByteArray)).size + t227.size ≤ 9223372036854775807 then (if ((t226 ++ (⟨#[46]⟩ : ByteArray)) ++ t227).size + 1 ≤ 9223372036854775807 then ((spec_DecText.f k a0_2).bind fun t228 => (if (((t226 ++ (⟨#[46]⟩ : ByteArray)) ++ t227) ++ (⟨#[46]⟩ : ByteArray)).size + t228.size ≤ 9223372036854775807 then (spec_VersionText.l0 k ((((t226 ++ (⟨#[46]⟩ : ByteArray)) ++ t227) ++ (⟨#[46]⟩ : ByteArray)) ++ t228) 0 a0_0 a0_1 a0_2 l0_3) else (none))) else (none)) else (none))) else (none))) else (some (⟨#[]⟩ : ByteArray)))
def spec_l01At.l0 : Nat → ByteArray → Int → Int → Option (Int)
 | 0, _, _, _ => none
 | k + 1, x0, x1, x5 => if x5 < (x0.size : Int) then (if 0 ≤ x5 then (if (bt x0 x5) = x1 then (some x5) else (spec_l01At.l0 k x0 x1 (wrap64 (x5 + 1)))) else (none)) else (some (-1))
def spec_l01At.f (k : Nat) (a0 : ByteArray) (a1 : Int) : Option (Int) := spec_l01At.l0 k a0 a1 0
def spec_l01Cut.l0 : Nat → ByteArray → Int → List ByteArray → Int → Int → Option (List ByteArray)
 | 0, _, _, _, _, _ => none
 | k + 1, x0, x1, x5, x6, x7 => if x7 < (x0.size : Int) then (if 0 ≤ x7 then (if (bt x0 x7) = x1 then (if 0 ≤ x6 then (if x6 ≤ x7 then (if x7 ≤ (x0.size : Int) then (if x5.length < 8796093022208 then (spec_l01Cut.l0 k x0 x1 (x5 ++ [x0.extract (x6 : Int).toNat (x7 : Int).toNat]) (wrap64 (x7 + 1)) (wrap64 (x7 + 1))) else (none)) else (none)) else (none)) else (none)) else (spec_l01Cut.l0 k x0 x1 x5 x6 (wrap64 (x7 + 1)))) else (none)) else (if 0 ≤ x6 then (if x6 ≤ (x0.size : Int) then (if x5.length < 8796093022208 then (some (x5 ++ [x0.extract (x6 : Int).toNat x0.size])) else (none)) else (none)) else (none))
def spec_l01Cut.f (k : Nat) (a0 : ByteArray) (a1 : Int) : Option (List ByteArray) := spec_l01Cut.l0 k a0 a1 (([] : List ByteArray)) 0 0
def spec_ReadVersion.j0 : Nat → ByteArray → ByteArray → Int → Int → Int → List ByteArray → Option (Int × Int × Int × List ByteArray × Bool)
 | 0, _, _, _, _, _, _ => none
 | k + 1, x0, x5, x242000, x242001, x242002, x242003 => (spec_l01Cut.f k x5 46).bind fun t246 => (if (t246.length : Int) = 3 then (if 0 < (t246.length : Int) then ((spec_ReadDec.f k (rdOf ByteArray.empty t246 0)).bind fun t250 => (if 1 < (t246.length : Int) then ((spec_ReadDec.f k (rdOf ByteArray.empty t246 1)).bind fun t252 => (if 2 < (t246.length : Int) then ((spec_ReadDec.f k (rdOf ByteArray.empty t246 2)).bind fun t254 => ((spec_VersionText.f k t250 t252 t254 x242003).bind fun t255 => (if t255.toList = x0.toList then (some (t250, t252, t254, x242003, true)) else (some (0, 0, 0, ([] : List ByteArray), false))))) else (none))) else (none))) else (none)) else (some (0, 0, 0, ([] : List ByteArray), false)))
def spec_ReadVersion.f (k : Nat) (a0 : ByteArray) : Option (Int × Int × Int × List ByteArray × Bool) := (spec_l01At.f k a0 45).bind fun t242 => (if t242 ≥ 0 then (if 0 ≤ t242 then (if t242 ≤ (a0.size : Int) then (if 0 ≤ (wrap64 (t242 + 1)) then (if (wrap64 (t242 + 1)) ≤ (a0.size : Int) then ((spec_l01Cut.f k (a0.extract ((wrap64 (t242 + 1)) : Int).toNat a0.size) 46).bind fun t243 => (spec_ReadVersion.j0 k a0 (a0.extract 0 (t242 : Int).toNat) 0 0 0 t243)) else (none)) else (none)) else (none)) else (none)) else (spec_ReadVersion.j0 k a0 a0 0 0 0 ([] : List ByteArray)))
def spec_l02Less.f (a0 : Int) (a1 : Int) : Option (Int) := if a0 < a1 then (some (-1)) else (if a0 > a1 then (some 1) else (some 0))
def spec_l02Texts.f (a0 : ByteArray) (a1 : ByteArray) : Option (Int) := if (Op.bytesLess a0.toList a1.toList) = true then (some (-1)) else (if (Op.bytesLess a1.toList a0.toList) = true then (some 1) else (some 0))
def spec_l02Part.j0 : Nat → ByteArray → ByteArray → Int → Int → Bool → Option (Int)
 | 0, _, _, _, _, _ => none
 | k + 1, x0, x1, x5, x6, x11 => if x11 = true then ((spec_l02Less.f x5 x6).bind fun t258 => (some t258)) else (if x5 ≥ 0 then (some (-1)) else (if x6 ≥ 0 then (some 1) else ((spec_l02Texts.f x0 x1).bind fun t259 => (some t259))))
def spec_l02Part.f (k : Nat) (a0 : ByteArray) (a1 : ByteArray) : Option (Int) := (spec_ReadDec.f k a0).bind fun t256 => ((spec_ReadDec.f k a1).bind fun t257 => (if t256 ≥ 0 then (spec_l02Part.j0 k a0 a1 t256 t257 (decide (t257 ≥ 0))) else (spec_l02Part.j0 k a0 a1 t256 t257 false)))
mutual
def spec_CompareVersion.l0 : Nat → List Int → Int → Int → Int → Int → List ByteArray → Int → Int → Int → List ByteArray → Option (Int)
 | 0, _, _, _, _, _, _, _, _, _, _ => none
 | k + 1, x5, x6, x261000, x261001, x261002, x261003, x262000, x262001, x262002, x262003 => if x6 < 3 then (if 0 ≤ x6 then (if x6 < (x5.length : Int) then (if (rd x5 x6) = 0 then (spec_CompareVersion.l0 k x5 (wrap64 (x6 + 1)) x261000 x261001 x261002 x261003 x262000 x262001 x262002 x262003) else (some (rd x5 x6))) else (none)) else (none)) else (if (x261003.length : Int) = 0 then (spec_CompareVersion.j1 k true x261000 x261001 x261002 x261003 x262000 x262001 x262002 x262003) else (spec_CompareVersion.j1 k ((x262003.length : Int) == 0) x261000 x261001 x261002 x261003 x262000 x262001 x262002 x262003))
def spec_CompareVersion.j1 : Nat → Bool → Int → Int → Int → List ByteArray → Int → Int → Int → List ByteArray → Option (Int)
 | 0, _, _, _, _, _, _, _, _, _ => none
 | k + 1, x47, x261000, x261001, x261002, x261003, x262000, x262001, x262002, x262003 => if x47 = true then ((spec_l02Less.f (x262003.length : Int) (x261003.length : Int)).bind fun t270 => (some t270)) else (spec_CompareVersion.l1 k 0 x261000 x261001 x261002 x261003 x262000 x262001 x262002 x262003)
def spec_CompareVersion.l1 : Nat → Int → Int → Int → Int → List ByteArray → Int → Int → Int → List ByteArray → Option (Int)
 | 0, _, _, _, _, _, _, _, _, _ => none
 | k + 1, x7, x261000, x261001, x261002, x261003, x262000, x262001, x262002, x262003 => if x7 < (x261003.length : Int) then (spec_CompareVersion.j3 k x7 (decide (x7 < (x262003.length : Int))) x261000 x261001 x261002 x261003 x262000 x262001 x262002 x262003) else (spec_CompareVersion.j3 k x7 false x261000 x261001 x261002 x261003 x262000 x262001 x262002 x262003)
def spec_CompareVersion.j3 : Nat → Int → Bool → Int → Int → Int → List ByteArray → Int → Int → Int → List ByteArray → Option (Int)
 | 0, _, _, _, _, _, _, _, _, _, _ => none
 | k + 1, x7, x66, x261000, x261001, x261002, x261003, x262000, x262001, x262002, x262003 => if x66 = true then (if 0 ≤ x7 then (if x7 < (x261003.length : Int) then (if x7 < (x262003.length : Int) then ((spec_l02Part.f k (rdOf ByteArray.empty x261003 x7) (rdOf ByteArray.empty x262003 x7)).bind fun t273 => (if t273 = 0 then (spec_CompareVersion.l1 k (wrap64 (x7 + 1)) x261000 x261001 x261002 x261003 x262000 x262001 x262002 x262003) else (some t273))) else (none)) else (none)) else (none)) else ((spec_l02Less.f (x261003.length : Int) (x262003.length : Int)).bind fun t274 => (some t274))
end
def spec_CompareVersion.f (k : Nat) (a0_0 : Int) (a0_1 : Int) (a0_2 : Int) (l0_3 : List ByteArray) (a1_0 : Int) (a1_1 : Int) (a1_2 : Int) (l1_3 : List ByteArray) : Option (Int) := (spec_l02Less.f a0_0 a1_0).bind fun t262 => ((spec_l02Less.f a0_1 a1_1).bind fun t263 => ((spec_l02Less.f a0_2 a1_2).bind fun t264 => (spec_CompareVersion.l0 k (([t262, t263, t264] : List Int)) 0 a0_0 a0_1 a0_2 l0_3 a1_0 a1_1 a1_2 l1_3)))
def spec_Next.j0 : Nat → Int → Bool → Int → Int → Int → List ByteArray → Int → Int → Int → List ByteArray → Int → Int → Int → Option (Int × Int × Int × List ByteArray)
 | 0, _, _, _, _, _, _, _, _, _, _, _, _, _ => none
 | k + 1, x1, x30, x276000, x276001, x276002, x276003, x278000, x278001, x278002, x278003, x285000, x285001, x285002 => if x30 = true then (some (x278000, x278001, x278002, x278003)) else (if x1 = 0 then ((spec_VersionOk.f k (wrap64 (x276000 + 1)) x285001 x285002 ([] : List ByteArray)).bind fun t287 => (if t287 = true then (some (wrap64 (x276000 + 1), x285001, x285002, ([] : List ByteArray))) else (some (x278000, x278001, x278002, x278003)))) else (if x1 = 1 then ((spec_VersionOk.f k x285000 (wrap64 (x276001 + 1)) x285002 ([] : List ByteArray)).bind fun t288 => (if t288 = true then (some (x285000, wrap64 (x276001 + 1), x285002, ([] : List ByteArray))) else (some (x278000, x278001, x278002, x278003)))) else (if (x276003.length : Int) = 0 then ((spec_VersionOk.f k x285000 x276001 (wrap64 (x276002 + 1)) ([] : List ByteArray)).bind fun t289 => (if t289 = true then (some (x285000, x276001, wrap64 (x276002 + 1), ([] : List ByteArray))) else (some (x278000, x278001, x278002, x278003)))) else ((spec_VersionOk.f k x285000 x276001 x276002 ([] : List ByteArray)).bind fun t290 => (if t290 = true then (some (x285000, x276001, x276002, ([] : List ByteArray))) else (some (x278000, x278001, x278002, x278003)))))))
def spec_Next.f (k : Nat) (a0_0 : Int) (a0_1 : Int) (a0_2 : Int) (l0_3 : List ByteArray) (a1 : Int) : Option (Int × Int × Int × List ByteArray) := (some (([] : List ByteArray) : List ByteArray)).bind fun y278 => (if y278.length + l0_3.length < 8796093022208 then ((some (y278 ++ l0_3 : List ByteArray)).bind fun y281 => ((spec_VersionOk.f k a0_0 a0_1 a0_2 l0_3).bind fun t285 => (if t285 = true then ((spec_l01In.f a1 0 2).bind fun t286 => (spec_Next.j0 k a1 (!t286) a0_0 a0_1 a0_2 l0_3 a0_0 a0_1 a0_2 y281 a0_0 0 0)) else (spec_Next.j0 k a1 true a0_0 a0_1 a0_2 l0_3 a0_0 a0_1 a0_2 y281 a0_0 0 0)))) else (none))
def spec_l03Below.f (k : Nat) (a0_0 : Int) (a0_1 : Int) (a0_2 : Int) (l0_3 : List ByteArray) (a1 : Int) : Option (ByteArray × Bool) := (some (([] : List ByteArray) : List ByteArray)).bind fun y292 => ((spec_Next.f k a0_0 a0_1 a0_2 y292 a1).bind fun bt295 => ((spec_CompareVersion.f k bt295.1 bt295.2.1 bt295.2.2.1 bt295.2.2.2 a0_0 a0_1 a0_2 y292).bind fun t302 => (if t302 = 0 then (some ((⟨#[]⟩ : ByteArray), false)) else ((spec_VersionText.f k bt295.1 bt295.2.1 bt295.2.2.1 (([(⟨#[48]⟩ : ByteArray)] : List ByteArray))).bind fun t306 => (some (t306, true))))))
def spec_l03Alone.f (k : Nat) (a0 : ByteArray) : Option (ByteArray × ByteArray × Bool) := (spec_ReadVersion.f k a0).bind fun bt308 => (if bt308.2.2.2.2 = true then (if (bt308.2.2.2.1.length : Int) > 0 then (if a0.size + 2 ≤ 9223372036854775807 then ((spec_ReadVersion.f k (a0 ++ (⟨#[46, 48]⟩ : ByteArray))).bind fun bt316 => (if bt316.2.2.2.2 = true then (some (a0, a0 ++ (⟨#[46, 48]⟩ : ByteArray), true)) else (some ((⟨#[]⟩ : ByteArray), (⟨#[]⟩ : ByteArray), false)))) else (none)) else ((spec_l03Below.f k bt308.1 bt308.2.1 bt308.2.2.1 bt308.2.2.2.1 2).bind fun bt323 => (if bt323.2 = true then (some (a0, bt323.1, true)) else (some ((⟨#[]⟩ : ByteArray), (⟨#[]⟩ : ByteArray), false))))) else (some ((⟨#[]⟩ : ByteArray), (⟨#[]⟩ : ByteArray), false)))
def spec_Exact.f (k : Nat) (a0 : ByteArray) : Option ((List (S67))) := (spec_l03Alone.f k a0).bind fun bt325 => (if bt325.2.2 = true then (some (([(⟨bt325.1, bt325.2.1⟩ : S67)] : List (S67)))) else (some (([] : List (S67)))))
def spec_l04Long.j0 : Nat → ByteArray → Bool → Option (Int)
 | 0, _, _ => none
 | k + 1, x3, x6 => if x6 = true then (some 32) else (if x3.toList = ([115, 104, 97, 53, 49, 50] : List UInt8) then (some 64) else (some (-1)))
def spec_l04Long.f (k : Nat) (a0 : ByteArray) : Option (Int) := if a0.toList = ([115, 104, 97, 49] : List UInt8) then (some 20) else (if a0.toList = ([115, 104, 97, 50, 53, 54] : List UInt8) then (spec_l04Long.j0 k a0 (a0.toList == ([115, 104, 97, 50, 53, 54] : List UInt8))) else (spec_l04Long.j0 k a0 (a0.toList == ([104, 49] : List UInt8))))
mutual
def spec_NameOk.l0 : Nat → ByteArray → List ByteArray → Int → Option (Bool)
 | 0, _, _, _ => none
 | k + 1, x0, x3, x4 => if x4 < (x3.length : Int) then (if 0 ≤ x4 then (if (rdOf ByteArray.empty x3 x4).toList = ([110, 111, 100, 101, 95, 109, 111, 100, 117, 108, 101, 115] : List UInt8) then (some false) else (if x4 = 0 then (if ((rdOf ByteArray.empty x3 x4).size : Int) > 0 then (if 0 < ((rdOf ByteArray.empty x3 x4).size : Int) then (spec_NameOk.j1 k x0 x3 x4 (rdOf ByteArray.empty x3 x4) ((bt (rdOf ByteArray.empty x3 x4) 0) == 64)) else (none)) else (spec_NameOk.j1 k x0 x3 x4 (rdOf ByteArray.empty x3 x4) false)) else (spec_NameOk.j1 k x0 x3 x4 (rdOf ByteArray.empty x3 x4) false))) else (none)) else (some (decide ((x0.size : Int) ≤ 60)))
def spec_NameOk.j1 : Nat → ByteArray → List ByteArray → Int → ByteArray → Bool → Option (Bool)
 | 0, _, _, _, _, _ => none
 | k + 1, x0, x3, x4, x5, x32 => if x32 = true then (if 1 ≤ (x5.size : Int) then (spec_NameOk.j2 k x0 x3 x4 (x5.extract 1 x5.size)) else (none)) else (spec_NameOk.j2 k x0 x3 x4 x5)
def spec_NameOk.j2 : Nat → ByteArray → List ByteArray → Int → ByteArray → Option (Bool)
 | 0, _, _, _, _ => none
 | k + 1, x0, x3, x4, x5 => spec_NameOk.l1 k x0 x3 x4 x5 0
def spec_NameOk.l1 : Nat → ByteArray → List ByteArray → Int → ByteArray → Int → Option (Bool)
 | 0, _, _, _, _, _ => none
 | k + 1, x0, x3, x4, x5, x6 => if x6 < (x5.size : Int) then (if 0 ≤ x6 then ((spec_l01Letter.f (bt x5 x6)).bind fun t339 => (if t339 = true then (spec_NameOk.l1 k x0 x3 x4 x5 (wrap64 (x6 + 1))) else (if (bt x5 x6) = 46 then (spec_NameOk.l1 k x0 x3 x4 x5 (wrap64 (x6 + 1))) else (if (bt x5 x6) = 95 then (spec_NameOk.l1 k x0 x3 x4 x5 (wrap64 (x6 + 1))) else (if (bt x5 x6) = 45 then (spec_NameOk.l1 k x0 x3 x4 x5 (wrap64 (x6 + 1))) else (some false)))))) else (none)) else (if x5.toList = ([] : List UInt8) then (some false) else (spec_NameOk.l0 k x0 x3 (wrap64 (x4 + 1))))
end
def spec_NameOk.f (k : Nat) (a0 : ByteArray) : Option (Bool) := (spec_l01Cut.f k a0 47).bind fun t335 => (spec_NameOk.l0 k a0 t335 0)
def spec_PlainOk.l0 : Nat → ByteArray → Int → Option (Bool)
 | 0, _, _ => none
 | k + 1, x0, x3 => if x3 < (x0.size : Int) then (if 0 ≤ x3 then ((spec_l01In.f (wrap64 (bt x0 x3)) 33 126).bind fun t340 => (if t340 = true then (if (bt x0 x3) = 34 then (some false) else (if (bt x0 x3) = 39 then (some false) else (if (bt x0 x3) = 44 then (some false) else (if (bt x0 x3) = 92 then (some false) else (spec_PlainOk.l0 k x0 (wrap64 (x3 + 1))))))) else (some false))) else (none)) else (if (x0.size : Int) ≤ 100 then (some (decide ((x0.size : Int) < 20000))) else (some false))
def spec_PlainOk.f (k : Nat) (a0 : ByteArray) : Option (Bool) := spec_PlainOk.l0 k a0 0
def spec_PackOk.l0 : Nat → Int → ByteArray → ByteArray → ByteArray → List (S130) → Bool → List ByteArray → Option (Bool)
 | 0, _, _, _, _, _, _, _ => none
 | k + 1, x3, x342000, x342001, x342002, x342003, x342004, x342005 => if x3 < (x342003.length : Int) then (if 0 ≤ x3 then ((spec_l04Long.f k ((rd_T130 x342003 x3).f0)).bind fun t343 => (if t343 = (((rd_T130 x342003 x3).f1).size : Int) then (if x3 > 0 then (if 0 ≤ (wrap64 (x3 - 1)) then (if (wrap64 (x3 - 1)) < (x342003.length : Int) then (if ((Op.bytesLess (((rd_T130 x342003 (wrap64 (x3 - 1))).f0).toList) (((rd_T130 x342003 x3).f0).toList)) = true) then (spec_PackOk.l0 k (wrap64 (x3 + 1)) x342000 x342001 x342002 x342003 x342004 x342005) else (some false)) else (none)) else (none)) else (spec_PackOk.l0 k (wrap64 (x3 + 1)) x342000 x342001 x342002 x342003 x342004 x342005)) else (some false))) else (none)) else ((spec_NameOk.f k x342000).bind fun t347 => (if t347 = true then ((spec_Exact.f k x342001).bind fun t348 => (if (t348.length : Int) = 1 then ((spec_PlainOk.f k x342002).bind fun t351 => (some t351)) else (some false))) else (some false)))
def spec_PackOk.f (k : Nat) (a0_0 : ByteArray) (a0_1 : ByteArray) (a0_2 : ByteArray) (l0_3 : List (S130)) (a0_4 : Bool) (l0_5 : List ByteArray) : Option (Bool) := spec_PackOk.l0 k 0 a0_0 a0_1 a0_2 l0_3 a0_4 l0_5
def spec_Find.l0 : Nat → ByteArray → Int → List ByteArray → List (S47) → Option (Int)
 | 0, _, _, _, _ => none
 | k + 1, x1, x5, x353000, x353001 => if x5 < (x353001.length : Int) then (if 0 ≤ x5 then ((spec_KeyOf.f ((rd_T47 x353001 x5).f0) ((rd_T47 x353001 x5).f1) ((rd_T47 x353001 x5).f2) ((rd_T47 x353001 x5).f3) ((rd_T47 x353001 x5).f4) ((rd_T47 x353001 x5).f5)).bind fun t354 => (if t354.toList = x1.toList then (some x5) else (spec_Find.l0 k x1 (wrap64 (x5 + 1)) x353000 x353001))) else (none)) else (some (-1))
def spec_Find.f (k : Nat) (l0_0 : List ByteArray) (l0_1 : List (S47)) (a1 : ByteArray) : Option (Int) := spec_Find.l0 k a1 0 l0_0 l0_1
def spec_l04Keys.l0 : Nat → List ByteArray → Int → List ByteArray → List (S47) → Option (Bool)
 | 0, _, _, _, _ => none
 | k + 1, x1, x5, x356000, x356001 => if x5 < (x1.length : Int) then (if 0 ≤ x5 then ((spec_Find.f k x356000 x356001 (rdOf ByteArray.empty x1 x5)).bind fun t357 => (if t357 < 0 then (some false) else (if x5 > 0 then (if 0 ≤ (wrap64 (x5 - 1)) then (if (wrap64 (x5 - 1)) < (x1.length : Int) then (if ((Op.bytesLess ((rdOf ByteArray.empty x1 (wrap64 (x5 - 1))).toList) ((rdOf ByteArray.empty x1 x5).toList)) = true) then (spec_l04Keys.l0 k x1 (wrap64 (x5 + 1)) x356000 x356001) else (some false)) else (none)) else (none)) else (spec_l04Keys.l0 k x1 (wrap64 (x5 + 1)) x356000 x356001)))) else (none)) else (some true)
def spec_l04Keys.f (k : Nat) (l0_0 : List ByteArray) (l0_1 : List (S47)) (l1 : List ByteArray) : Option (Bool) := spec_l04Keys.l0 k l1 0 l0_0 l0_1
def spec_GraphOk.l0 : Nat → Int → List ByteArray → List (S47) → Option (Bool)
 | 0, _, _, _ => none
 | k + 1, x3, x361000, x361001 => if x3 < (x361001.length : Int) then (if 0 ≤ x3 then ((spec_PackOk.f k ((rd_T47 x361001 x3).f0) ((rd_T47 x361001 x3).f1) ((rd_T47 x361001 x3).f2) ((rd_T47 x361001 x3).f3) ((rd_T47 x361001 x3).f4) ((rd_T47 x361001 x3).f5)).bind fun t363 => (if t363 = true then ((spec_l04Keys.f k x361000 x361001 ((rd_T47 x361001 x3).f5)).bind fun t365 => (if t365 = true then (if x3 > 0 then (if 0 ≤ (wrap64 (x3 - 1)) then (if (wrap64 (x3 - 1)) < (x361001.length : Int) then ((spec_KeyOf.f ((rd_T47 x361001 (wrap64 (x3 - 1))).f0) ((rd_T47 x361001 (wrap64 (x3 - 1))).f1) ((rd_T47 x361001 (wrap64 (x3 - 1))).f2) ((rd_T47 x361001 (wrap64 (x3 - 1))).f3) ((rd_T47 x361001 (wrap64 (x3 - 1))).f4) ((rd_T47 x361001 (wrap64 (x3 - 1))).f5)).bind fun t367 => ((spec_KeyOf.f ((rd_T47 x361001 x3).f0) ((rd_T47 x361001 x3).f1) ((rd_T47 x361001 x3).f2) ((rd_T47 x361001 x3).f3) ((rd_T47 x361001 x3).f4) ((rd_T47 x361001 x3).f5)).bind fun t369 => (if ((Op.bytesLess t367.toList t369.toList) = true) then (spec_GraphOk.l0 k (wrap64 (x3 + 1)) x361000 x361001) else (some false)))) else (none)) else (none)) else (spec_GraphOk.l0 k (wrap64 (x3 + 1)) x361000 x361001)) else (some false))) else (some false))) else (none)) else (if (x361001.length : Int) ≤ 40 then ((spec_l04Keys.f k x361000 x361001 x361000).bind fun t361 => (some t361)) else (some false))
def spec_GraphOk.f (k : Nat) (l0_0 : List ByteArray) (l0_1 : List (S47)) : Option (Bool) := spec_GraphOk.l0 k 0 l0_0 l0_1
def spec_l04Has.l0 : Nat → List ByteArray → ByteArray → Int → Option (Bool)
 | 0, _, _, _ => none
 | k + 1, x0, x1, x5 => if x5 < (x0.length : Int) then (if 0 ≤ x5 then (if (rdOf ByteArray.empty x0 x5).toList = x1.toList then (some true) else (spec_l04Has.l0 k x0 x1 (wrap64 (x5 + 1)))) else (none)) else (some false)
def spec_l04Has.f (k : Nat) (l0 : List ByteArray) (a1 : ByteArray) : Option (Bool) := spec_l04Has.l0 k l0 a1 0
mutual
def spec_Order.l0 : Nat → List ByteArray → Bool → List ByteArray → List (S47) → Option (List ByteArray × Bool)
 | 0, _, _, _, _ => none
 | k + 1, x4, x5, x372000, x372001 => if x5 = true then (spec_Order.l1 k x4 false 0 x372000 x372001) else (some (x4, ((x4.length : Int) == (x372001.length : Int))))
def spec_Order.l1 : Nat → List ByteArray → Bool → Int → List ByteArray → List (S47) → Option (List ByteArray × Bool)
 | 0, _, _, _, _, _ => none
 | k + 1, x4, x5, x6, x372000, x372001 => if x6 < (x372001.length : Int) then (spec_Order.j2 k x4 x5 x6 (!x5) x372000 x372001) else (spec_Order.j2 k x4 x5 x6 false x372000 x372001)
def spec_Order.j2 : Nat → List ByteArray → Bool → Int → Bool → List ByteArray → List (S47) → Option (List ByteArray × Bool)
 | 0, _, _, _, _, _, _ => none
 | k + 1, x4, x5, x6, x24, x372000, x372001 => if x24 = true then (if 0 ≤ x6 then (if x6 < (x372001.length : Int) then ((spec_KeyOf.f ((rd_T47 x372001 x6).f0) ((rd_T47 x372001 x6).f1) ((rd_T47 x372001 x6).f2) ((rd_T47 x372001 x6).f3) ((rd_T47 x372001 x6).f4) ((rd_T47 x372001 x6).f5)).bind fun t377 => ((spec_l04Has.f k x4 t377).bind fun t378 => (spec_Order.l2 k x4 x5 x6 t377 (!t378) 0 x372000 x372001))) else (none)) else (none)) else (spec_Order.l0 k x4 x5 x372000 x372001)
def spec_Order.l2 : Nat → List ByteArray → Bool → Int → ByteArray → Bool → Int → List ByteArray → List (S47) → Option (List ByteArray × Bool)
 | 0, _, _, _, _, _, _, _, _ => none
 | k + 1, x4, x5, x6, x7, x8, x9, x372000, x372001 => if 0 ≤ x6 then (if x6 < (x372001.length : Int) then (if x9 < (((rd_T47 x372001 x6).f5).length : Int) then (if x8 = true then (if 0 ≤ x9 then ((spec_l04Has.f k x4 (rdOf ByteArray.empty ((rd_T47 x372001 x6).f5) x9)).bind fun t382 => (spec_Order.l2 k x4 x5 x6 x7 t382 (wrap64 (x9 + 1)) x372000 x372001)) else (none)) else (spec_Order.l2 k x4 x5 x6 x7 false (wrap64 (x9 + 1)) x372000 x372001)) else (if x8 = true then (if x4.length < 8796093022208 then (spec_Order.l1 k (x4 ++ [x7]) true (wrap64 (x6 + 1)) x372000 x372001) else (none)) else (spec_Order.l1 k x4 x5 (wrap64 (x6 + 1)) x372000 x372001))) else (none)) else (none)
end
def spec_Order.f (k : Nat) (l0_0 : List ByteArray) (l0_1 : List (S47)) : Option (List ByteArray × Bool) := (some (([] : List ByteArray) : List ByteArray)).bind fun y372 => ((spec_GraphOk.f k l0_0 l0_1).bind fun t375 => (if t375 = true then (spec_Order.l0 k y372 true l0_0 l0_1) else (some (y372, false))))
end Go.Proofs.YtieohddolkeegaaGreatDoor.G

end
