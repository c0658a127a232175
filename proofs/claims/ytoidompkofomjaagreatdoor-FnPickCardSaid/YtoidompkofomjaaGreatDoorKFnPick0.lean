/- A part of the proof that the law FnPick answers true at every input that its row speaks of. Conditions: the row's own. -/
import Derived.Test.YtoidompkofomjaaGreatDoorProg
import Derived.Test.YtoidompkofomjaaGreatDoorOrd
import Derived.Below
import Derived.Deep.Draws
import Derived.Deep.AppendLies
import Derived.Maps.AppendAt
import Derived.OwnWalk
import Derived.Laws.BytesArg
import Derived.Laws.MakeOwn
import Derived.Laws.OwnMore
import Derived.Deep.OwnRows
import Derived.Tactics
import Derived.Lib.ConvBytes
import Derived.Laws.Slices
import Derived.WalkKit
import Derived.KernelRfl
import Derived.RowKit3
import Derived.Deep.LoopGhost
import Derived.Deep.QuietTactic
import Derived.BigQuiet
import Derived.WideLaws
import Derived.Deep.DeepCutAuto
import Derived.Deep.CutBlock
import Derived.Deep.RegionHeld3
import Derived.Laws.Rows
import Derived.Lib.AppendStr
import Derived.ArgAppend
import Derived.Laws.IdiomCopy
import Derived.OrdersHeld
import Derived.Laws.BitsLemmas
import Derived.RowKit
import Derived.Test.YtoidompkofomjaaGreatDoorGlob
import Derived.Test.YtoidompkofomjaaGreatDoorVMore
import Derived.Test.YtoidompkofomjaaGreatDoorShelf
import Derived.Lib.SplitLaws
import Derived.Lib.AppendIntMem
section
namespace Go.Proofs.YtoidompkofomjaaGreatDoor.G
open Go.RowKit Go.Proofs.YtoidompkofomjaaGreatDoorW.PrintWords Go.Proofs.YtoidompkofomjaaGreatDoorW.PrintLast Go.Proofs.YtoidompkofomjaaGreatDoorW.PrintMore
attribute [local go_sem] max2_int min2_int max_two min_two max_three min_three max_four min_four
attribute [local go_sem high] Go.Proofs.YtoidompkofomjaaGreatDoor.G.str_gtr Go.Proofs.YtoidompkofomjaaGreatDoor.G.str_leq Go.Proofs.YtoidompkofomjaaGreatDoor.G.str_geq
set_option linter.unusedVariables false
set_option linter.unusedSimpArgs false
def errW : Option Int → Value
 | none => .nilIface
 | some c => .iface 0 (.int .i64 c)
theorem errW_none : errW none = .nilIface := rfl
theorem errW_some (c : Int) : errW (some c) = .iface 0 (.int .i64 c) := rfl
theorem info9 : (Tryz.prog.info? 9).map (fun i => (i.zero, i.size, i.bytes)) = some (some (.string ⟨#[]⟩), 1, 16) := by kernel_rfl
theorem info45 : (Tryz.prog.info? 45).map (fun i => (i.zero, i.size, i.bytes)) = some (some (.agg #[(.string ⟨#[]⟩), (.string ⟨#[]⟩)]), 2, 32) := by kernel_rfl
structure S45 where
 f0 : ByteArray
 f1 : ByteArray
def z45 : S45 := ⟨(⟨#[]⟩ : ByteArray), (⟨#[]⟩ : ByteArray)⟩
def k45 : Kd S45 := Kd.iso (Kd.pair Kd.string Kd.string) (fun x : S45 => (x.f0, x.f1))
theorem k45_openM {w : World} {base : Nat} {ok : Nat → Prop} {x : S45} {cs : List Value} (h : k45.M w base ok x cs) : cs = [.string x.f0, .string x.f1] := by
 obtain ⟨_, _, rfl, rfl, rfl⟩ := h
 exact rfl
theorem k45_mkM (w : World) (base : Nat) (ok : Nat → Prop) (x : S45)  : k45.M w base ok x [.string x.f0, .string x.f1] := ⟨[.string x.f0], [.string x.f1], rfl, rfl, rfl⟩
def rd_T45 (xs : List S45) (i : Int) : S45 := xs.getD i.toNat z45
def rd_L5 (xs : List (List ByteArray)) (i : Int) : (List ByteArray) := xs.getD i.toNat ([] : List ByteArray)
def IsS55 (w0 W : World) (g : Nat) (f0 : List Int) (f1 : Int) (f2 : Int) : Prop := ∃ A0 c0, W.heap[g]? = some (.cells #[.slice A0 f0.length c0, .int .i64 f1, .int .i64 f2] 55 (0, 0)) ∧ w0.heap.size ≤ g ∧ Kd.C (Kd.int .u8) w0 A0 f0.length f0
theorem IsS55.grown {w0 W : World} {g : Nat} {f0 : List Int} {f1 : Int} {f2 : Int} {W1 : World} {row : Option Nat} (h : IsS55 w0 W g f0 f1 f2) (hw : W.grownBy W1 row) (hne : some g ≠ row) : IsS55 w0 W1 g f0 f1 f2 := by
 obtain ⟨A0, c0, hb, hg, hr0⟩ := h
 exact ⟨A0, c0, blk_grown hb hw hne, hg, hr0⟩
theorem IsS55.kept {w0 W : World} {g : Nat} {f0 : List Int} {f1 : Int} {f2 : Int} {W1 : World} {S : Nat → Prop} (h : IsS55 w0 W g f0 f1 f2) (hk : Kept W W1 S) (hne : ¬ S g) : IsS55 w0 W1 g f0 f1 f2 := by
 obtain ⟨A0, c0, hb, hg, hr0⟩ := h
 exact ⟨A0, c0, blk_kept hb hk hne, hg, hr0⟩
theorem IsS55.below {w0 W : World} {g : Nat} {f0 : List Int} {f1 : Int} {f2 : Int} {W1 : World} (h : IsS55 w0 W g f0 f1 f2) (hw : Below W.heap.size W W1) : IsS55 w0 W1 g f0 f1 f2 := h.grown (grown_of_below hw none) (by simp)
theorem IsS55.alloc {w0 W : World} {g : Nat} {f0 : List Int} {f1 : Int} {f2 : Int} (h : IsS55 w0 W g f0 f1 f2) (o : Obj) : IsS55 w0 (W.alloc o) g f0 f1 f2 := h.below (below_alloc (Below.refl _ _) o)
theorem IsS55.drewN {w0 W : World} {g : Nat} {f0 : List Int} {f1 : Int} {f2 : Int} (h : IsS55 w0 W g f0 f1 f2) (m : Nat) : IsS55 w0 (W.drewN m) g f0 f1 f2 := h
theorem IsS55.drew {w0 W : World} {g : Nat} {f0 : List Int} {f1 : Int} {f2 : Int} (h : IsS55 w0 W g f0 f1 f2) : IsS55 w0 W.drew g f0 f1 f2 := h
theorem IsS55.at_ {w0 W : World} {g : Nat} {f0 : List Int} {f1 : Int} {f2 : Int} {w' : World} {m : Nat} (hq : W.drewN m = w') (h : IsS55 w0 W g f0 f1 f2) : IsS55 w0 w' g f0 f1 f2 := by subst hq; exact IsS55.drewN h m
theorem IsS55.apart {w0 W : World} {g : Nat} {f0 : List Int} {f1 : Int} {f2 : Int} {α : Type} {d : Kd α} {e : Nat} {base : Nat} {ok : Nat → Prop} {v : Value} {xs : List α} (h : IsS55 w0 W g f0 f1 f2) (ho : d.R e W base ok v xs) (ht : ∀ q, q ∈ e :: d.E → q ≠ 55) : d.R e W base (fun k => ok k ∧ k ≠ g) v xs := by
 obtain ⟨A0, c0, hb, hg, hr0⟩ := h
 exact Kd.R_types ho hb ht
theorem IsS55.own_ne {w0 W : World} {g : Nat} {f0 : List Int} {f1 : Int} {f2 : Int} {α : Type} {d : Kd α} {e : Nat} {base : Nat} {ok : Nat → Prop} {v : Value} {xs : List α} (h : IsS55 w0 W g f0 f1 f2) (ho : d.R e W base ok v xs) (ht : e ≠ 55) : some g ≠ v.ownBlock := by
 obtain ⟨A0, c0, hb, hg, hr0⟩ := h
 exact Kd.R_ne ho hb ht
theorem IsS55.lt {w0 W : World} {g : Nat} {f0 : List Int} {f1 : Int} {f2 : Int} (h : IsS55 w0 W g f0 f1 f2) : g < W.heap.size := by
 obtain ⟨A0, c0, hb, hg, hr0⟩ := h
 exact blk_lt hb
theorem IsS55.ge {w0 W : World} {g : Nat} {f0 : List Int} {f1 : Int} {f2 : Int} (h : IsS55 w0 W g f0 f1 f2) : w0.heap.size ≤ g := by
 obtain ⟨A0, c0, hb, hg, hr0⟩ := h
 exact hg
theorem IsS55.far {w0 W : World} {g : Nat} {f0 : List Int} {f1 : Int} {f2 : Int} {p : Addr} (h : IsS55 w0 W g f0 f1 f2) (hne : g ≠ p.block) (u : Value) : IsS55 w0 (W.setCell p u) g f0 f1 f2 := by
 obtain ⟨A0, c0, hb, hg, hr0⟩ := h
 exact ⟨A0, c0, blk_far hb hne u, hg, hr0⟩
theorem cellS55_0 {W : World} {g : Nat} {A0 : Option Addr} {c0 : Nat} {f0 : List Int} {f1 : Int} {f2 : Int} (h : W.heap[g]? = some (.cells #[.slice A0 f0.length c0, .int .i64 f1, .int .i64 f2] 55 (0, 0))) : W.cell? ⟨g, 0, none⟩ = some (.slice A0 f0.length c0) := (blk_cell h 0).trans rfl
theorem cellS55_1 {W : World} {g : Nat} {A0 : Option Addr} {c0 : Nat} {f0 : List Int} {f1 : Int} {f2 : Int} (h : W.heap[g]? = some (.cells #[.slice A0 f0.length c0, .int .i64 f1, .int .i64 f2] 55 (0, 0))) : W.cell? ⟨g, 1, none⟩ = some (.int .i64 f1) := (blk_cell h 1).trans rfl
theorem IsS55.set_1 {w0 W : World} {g : Nat} {f0 : List Int} {f1 : Int} {f2 : Int} (h : IsS55 w0 W g f0 f1 f2) (x : Int) : IsS55 w0 (W.setCell ⟨g, 1, none⟩ (.int .i64 x)) g f0 x f2 := by
 obtain ⟨A0, c0, hb, hg, hr0⟩ := h
 exact ⟨A0, c0, by simpa using blk_set hb 1 (.int .i64 x), hg, hr0⟩
theorem cellS55_2 {W : World} {g : Nat} {A0 : Option Addr} {c0 : Nat} {f0 : List Int} {f1 : Int} {f2 : Int} (h : W.heap[g]? = some (.cells #[.slice A0 f0.length c0, .int .i64 f1, .int .i64 f2] 55 (0, 0))) : W.cell? ⟨g, 2, none⟩ = some (.int .i64 f2) := (blk_cell h 2).trans rfl
theorem IsS55.set_2 {w0 W : World} {g : Nat} {f0 : List Int} {f1 : Int} {f2 : Int} (h : IsS55 w0 W g f0 f1 f2) (x : Int) : IsS55 w0 (W.setCell ⟨g, 2, none⟩ (.int .i64 x)) g f0 f1 x := by
 obtain ⟨A0, c0, hb, hg, hr0⟩ := h
 exact ⟨A0, c0, by simpa using blk_set hb 2 (.int .i64 x), hg, hr0⟩
def spec_l01New.l0 : Nat → List Int → Int → Int → Option (List Int × Int × Int)
 | 0, _, _, _ => none
 | k + 1, x0, x3, x4 => if x4 < (x0.length : Int) then (if x4 < 4000 then (if 0 ≤ x4 then (spec_l01New.l0 k x0 (Go.bits .and .i64 (wrap64 ((wrap64 ((wrap64 (x3 * 131)) + (wrap64 (rd x0 x4)))) + 7)) 1073741823) (wrap64 (x4 + 1))) else (none)) else (some (x0, 0, x3))) else (some (x0, 0, x3))
def spec_l01New.f (k : Nat) (l0 : List Int) : Option (List Int × Int × Int) := spec_l01New.l0 k l0 (wrap64 (445445 + (l0.length : Int))) 0
theorem spec_l01New.mono_l : ∀ k, (∀ y0 y1 y2, LeO (spec_l01New.l0 k y0 y1 y2) (spec_l01New.l0 (k + 1) y0 y1 y2))
 | 0 => fun _ _ _ r h => by simp [spec_l01New.l0] at h
 | k + 1 => by
  have ih0 := spec_l01New.mono_l k
  ·intro y0 y1 y2
   unfold spec_l01New.l0
   repeat' first
   | (with_reducible exact ih0 _ _ _) | (with_reducible exact LeO.refl _) | (with_reducible exact LeO.none _) | (with_reducible refine LeO.ite ?_ ?_) | (with_reducible refine LeO.bind ?_ (fun _ => ?_)) | exact ih0 _ _ _ | exact LeO.none _ | refine LeO.ite ?_ ?_ | refine LeO.bind ?_ (fun _ => ?_)
theorem spec_l01New.mono : ∀ a0 k, LeO (spec_l01New.f k a0) (spec_l01New.f (k + 1) a0) := by
 intro a0 k
 have ih0 := spec_l01New.mono_l k
 unfold spec_l01New.f
 repeat' first
   | (with_reducible exact ih0 _ _ _) | (with_reducible exact LeO.refl _) | (with_reducible exact LeO.none _) | (with_reducible refine LeO.ite ?_ ?_) | (with_reducible refine LeO.bind ?_ (fun _ => ?_)) | exact ih0 _ _ _ | exact LeO.none _ | refine LeO.ite ?_ ?_ | refine LeO.bind ?_ (fun _ => ?_)
def spec_l01Byte.f (s0_0 : List Int) (s0_1 : Int) (s0_2 : Int) : Option (Int × Int × Int) := if s0_1 < (s0_0.length : Int) then (if 0 ≤ s0_1 then (some (Go.bits .and .i64 (wrap64 ((Go.bits .and .i64 (Go.bits .xor .i64 ((wrap64 ((wrap64 (s0_2 * 6364136223846793005)) + 1442695040888963407)) / 8589934592) ((wrap64 ((wrap64 (s0_2 * 6364136223846793005)) + 1442695040888963407)) / 35184372088832)) 255) + (wrap64 (rd s0_0 s0_1)))) 255, wrap64 (s0_1 + 1), wrap64 ((wrap64 (s0_2 * 6364136223846793005)) + 1442695040888963407))) else (none)) else (some (Go.bits .and .i64 (Go.bits .xor .i64 ((wrap64 ((wrap64 (s0_2 * 6364136223846793005)) + 1442695040888963407)) / 8589934592) ((wrap64 ((wrap64 (s0_2 * 6364136223846793005)) + 1442695040888963407)) / 35184372088832)) 255, s0_1, wrap64 ((wrap64 (s0_2 * 6364136223846793005)) + 1442695040888963407)))
def spec_l01Below.f (s0_0 : List Int) (s0_1 : Int) (s0_2 : Int) (a1 : Int) : Option (Int × Int × Int) := if a1 ≤ 0 then (some (0, s0_1, s0_2)) else (if a1 ≤ 256 then ((spec_l01Byte.f s0_0 s0_1 s0_2).bind fun bt105 => (if a1 = 0 then (none) else (some (Int.tmod bt105.1 a1, bt105.2.1, bt105.2.2)))) else ((spec_l01Byte.f s0_0 s0_1 s0_2).bind fun bt108 => ((spec_l01Byte.f s0_0 bt108.2.1 bt108.2.2).bind fun bt111 => ((spec_l01Byte.f s0_0 bt111.2.1 bt111.2.2).bind fun bt114 => ((spec_l01Byte.f s0_0 bt114.2.1 bt114.2.2).bind fun bt117 => (if a1 = 0 then (none) else (some (Int.tmod (wrap64 ((wrap64 ((wrap64 ((wrap64 (bt108.1 * 16777216)) + (wrap64 (bt111.1 * 65536)))) + (wrap64 (bt114.1 * 256)))) + bt117.1)) a1, bt117.2.1, bt117.2.2))))))))
def spec_l01Pick.f (s0_0 : List Int) (s0_1 : Int) (s0_2 : Int) (l1 : List ByteArray) : Option (ByteArray × Int × Int) := (spec_l01Below.f s0_0 s0_1 s0_2 (l1.length : Int)).bind fun bt120 => (if 0 ≤ bt120.1 then (if bt120.1 < (l1.length : Int) then (some (rdOf ByteArray.empty l1 bt120.1, bt120.2.1, bt120.2.2)) else (none)) else (none))
def spec_l01Bent.f (s0_0 : List Int) (s0_1 : Int) (s0_2 : Int) (a1 : ByteArray) : Option (ByteArray × Int × Int) := (spec_l01Below.f s0_0 s0_1 s0_2 (wrap64 ((a1.size : Int) + 1))).bind fun bt124 => ((spec_l01Below.f s0_0 bt124.2.1 bt124.2.2 8).bind fun bt127 => (if bt127.1 = 0 then (if 0 ≤ bt124.1 then (if bt124.1 ≤ (a1.size : Int) then (some (a1.extract 0 (bt124.1 : Int).toNat, bt127.2.1, bt127.2.2)) else (none)) else (none)) else (if bt127.1 = 1 then (if 0 ≤ bt124.1 then (if bt124.1 ≤ (a1.size : Int) then ((spec_l01Pick.f s0_0 bt127.2.1 bt127.2.2 (([(⟨#[48]⟩ : ByteArray), (⟨#[32]⟩ : ByteArray), (⟨#[255]⟩ : ByteArray), (⟨#[34]⟩ : ByteArray), (⟨#[10]⟩ : ByteArray), (⟨#[97]⟩ : ByteArray), (⟨#[44]⟩ : ByteArray), (⟨#[61]⟩ : ByteArray)] : List ByteArray))).bind fun bt133 => (if (a1.extract 0 (bt124.1 : Int).toNat).size + bt133.1.size ≤ 9223372036854775807 then (if ((a1.extract 0 (bt124.1 : Int).toNat) ++ bt133.1).size + (a1.extract (bt124.1 : Int).toNat a1.size).size ≤ 9223372036854775807 then (some (((a1.extract 0 (bt124.1 : Int).toNat) ++ bt133.1) ++ (a1.extract (bt124.1 : Int).toNat a1.size), bt133.2.1, bt133.2.2)) else (none)) else (none))) else (none)) else (none)) else (if bt127.1 = 2 then (if bt124.1 < (a1.size : Int) then (if 0 ≤ bt124.1 then (if bt124.1 ≤ (a1.size : Int) then ((spec_l01Pick.f s0_0 bt127.2.1 bt127.2.2 (([(⟨#[48]⟩ : ByteArray), (⟨#[65]⟩ : ByteArray), (⟨#[0]⟩ : ByteArray), (⟨#[57]⟩ : ByteArray), (⟨#[93]⟩ : ByteArray), (⟨#[92]⟩ : ByteArray)] : List ByteArray))).bind fun bt139 => (if (a1.extract 0 (bt124.1 : Int).toNat).size + bt139.1.size ≤ 9223372036854775807 then (if 0 ≤ (wrap64 (bt124.1 + 1)) then (if (wrap64 (bt124.1 + 1)) ≤ (a1.size : Int) then (if ((a1.extract 0 (bt124.1 : Int).toNat) ++ bt139.1).size + (a1.extract ((wrap64 (bt124.1 + 1)) : Int).toNat a1.size).size ≤ 9223372036854775807 then (some (((a1.extract 0 (bt124.1 : Int).toNat) ++ bt139.1) ++ (a1.extract ((wrap64 (bt124.1 + 1)) : Int).toNat a1.size), bt139.2.1, bt139.2.2)) else (none)) else (none)) else (none)) else (none))) else (none)) else (none)) else (some (a1, bt127.2.1, bt127.2.2))) else (some (a1, bt127.2.1, bt127.2.2))))))
def spec_DecText.l0 : Nat → Int → ByteArray → Int → Option (ByteArray)
 | 0, _, _, _ => none
 | k + 1, x0, x3, x4 => if x4 = 0 then (if x0 < 0 then (if 1 + x3.size ≤ 9223372036854775807 then (some ((⟨#[45]⟩ : ByteArray) ++ x3)) else (none)) else (some x3)) else (if (Int.tmod x4 10) < 0 then (if 0 ≤ (wrap64 (-(Int.tmod x4 10))) then (if (wrap64 (-(Int.tmod x4 10))) ≤ (wrap64 ((wrap64 (-(Int.tmod x4 10))) + 1)) then (if (wrap64 ((wrap64 (-(Int.tmod x4 10))) + 1)) ≤ 10 then (if ((⟨#[48, 49, 50, 51, 52, 53, 54, 55, 56, 57]⟩ : ByteArray).extract ((wrap64 (-(Int.tmod x4 10))) : Int).toNat ((wrap64 ((wrap64 (-(Int.tmod x4 10))) + 1)) : Int).toNat).size + x3.size ≤ 9223372036854775807 then (spec_DecText.l0 k x0 (((⟨#[48, 49, 50, 51, 52, 53, 54, 55, 56, 57]⟩ : ByteArray).extract ((wrap64 (-(Int.tmod x4 10))) : Int).toNat ((wrap64 ((wrap64 (-(Int.tmod x4 10))) + 1)) : Int).toNat) ++ x3) (wrap64 (Int.tdiv x4 10))) else (none)) else (none)) else (none)) else (none)) else (if 0 ≤ (Int.tmod x4 10) then (if (Int.tmod x4 10) ≤ (wrap64 ((Int.tmod x4 10) + 1)) then (if (wrap64 ((Int.tmod x4 10) + 1)) ≤ 10 then (if ((⟨#[48, 49, 50, 51, 52, 53, 54, 55, 56, 57]⟩ : ByteArray).extract ((Int.tmod x4 10) : Int).toNat ((wrap64 ((Int.tmod x4 10) + 1)) : Int).toNat).size + x3.size ≤ 9223372036854775807 then (spec_DecText.l0 k x0 (((⟨#[48, 49, 50, 51, 52, 53, 54, 55, 56, 57]⟩ : ByteArray).extract ((Int.tmod x4 10) : Int).toNat ((wrap64 ((Int.tmod x4 10) + 1)) : Int).toNat) ++ x3) (wrap64 (Int.tdiv x4 10))) else (none)) else (none)) else (none)) else (none)))
def spec_DecText.f (k : Nat) (a0 : Int) : Option (ByteArray) := if a0 = 0 then (some (⟨#[48]⟩ : ByteArray)) else (spec_DecText.l0 k a0 (⟨#[]⟩ : ByteArray) a0)
theorem spec_DecText.mono_l : ∀ k, (∀ y0 y1 y2, LeO (spec_DecText.l0 k y0 y1 y2) (spec_DecText.l0 (k + 1) y0 y1 y2))
 | 0 => fun _ _ _ r h => by simp [spec_DecText.l0] at h
 | k + 1 => by
  have ih0 := spec_DecText.mono_l k
  ·intro y0 y1 y2
   unfold spec_DecText.l0
   repeat' first
   | (with_reducible exact ih0 _ _ _) | (with_reducible exact LeO.refl _) | (with_reducible exact LeO.none _) | (with_reducible refine LeO.ite ?_ ?_) | (with_reducible refine LeO.bind ?_ (fun _ => ?_)) | exact ih0 _ _ _ | exact LeO.none _ | refine LeO.ite ?_ ?_ | refine LeO.bind ?_ (fun _ => ?_)
theorem spec_DecText.mono : ∀ a0 k, LeO (spec_DecText.f k a0) (spec_DecText.f (k + 1) a0) := by
 intro a0 k
 have ih0 := spec_DecText.mono_l k
 unfold spec_DecText.f
 repeat' first
   | (with_reducible exact ih0 _ _ _) | (with_reducible exact LeO.refl _) | (with_reducible exact LeO.none _) | (with_reducible refine LeO.ite ?_ ?_) | (with_reducible refine LeO.bind ?_ (fun _ => ?_)) | exact ih0 _ _ _ | exact LeO.none _ | refine LeO.ite ?_ ?_ | refine LeO.bind ?_ (fun _ => ?_)
def spec_l01In.f (a0 : Int) (a1 : Int) (a2 : Int) : Option (Bool) := if a0 ≥ a1 then (some (decide (a0 ≤ a2))) else (some false)
def spec_ReadDec.l0 : Nat → ByteArray → Int → Int → Option (Int)
 | 0, _, _, _ => none
 | k + 1, x0, x3, x4 => if x4 < (x0.size : Int) then (if 0 ≤ x4 then ((spec_l01In.f (wrap64 (bt x0 x4)) 48 57).bind fun t142 => (if t142 = true then (if (x0.size : Int) > 9 then (some (-1)) else (spec_ReadDec.l0 k x0 (wrap64 ((wrap64 ((wrap64 (10 * x3)) + (wrap64 (bt x0 x4)))) - 48)) (wrap64 (x4 + 1)))) else (some (-1)))) else (none)) else (if x0.toList = ([] : List UInt8) then (some (-1)) else ((spec_DecText.f k x3).bind fun t143 => (if t143.toList = x0.toList then (some x3) else (some (-1)))))
def spec_ReadDec.f (k : Nat) (a0 : ByteArray) : Option (Int) := spec_ReadDec.l0 k a0 0 0
theorem spec_ReadDec.mono_l : ∀ k, (∀ y0 y1 y2, LeO (spec_ReadDec.l0 k y0 y1 y2) (spec_ReadDec.l0 (k + 1) y0 y1 y2))
 | 0 => fun _ _ _ r h => by simp [spec_ReadDec.l0] at h
 | k + 1 => by
  have ih0 := spec_ReadDec.mono_l k
  ·intro y0 y1 y2
   unfold spec_ReadDec.l0
   repeat' first
   | (with_reducible exact ih0 _ _ _) | (with_reducible exact spec_DecText.mono _ _) | (with_reducible exact LeO.refl _) | (with_reducible exact LeO.none _) | (with_reducible refine LeO.ite ?_ ?_) | (with_reducible refine LeO.bind ?_ (fun _ => ?_)) | exact ih0 _ _ _ | exact spec_DecText.mono _ _ | exact LeO.none _ | refine LeO.ite ?_ ?_ | refine LeO.bind ?_ (fun _ => ?_)
theorem spec_ReadDec.mono : ∀ a0 k, LeO (spec_ReadDec.f k a0) (spec_ReadDec.f (k + 1) a0) := by
 intro a0 k
 have ih0 := spec_ReadDec.mono_l k
 unfold spec_ReadDec.f
 repeat' first
   | (with_reducible exact ih0 _ _ _) | (with_reducible exact spec_DecText.mono _ _) | (with_reducible exact LeO.refl _) | (with_reducible exact LeO.none _) | (with_reducible refine LeO.ite ?_ ?_) | (with_reducible refine LeO.bind ?_ (fun _ => ?_)) | exact ih0 _ _ _ | exact spec_DecText.mono _ _ | exact LeO.none _ | refine LeO.ite ?_ ?_ | refine LeO.bind ?_ (fun _ => ?_)
def spec_l01Letter.f (a0 : Int) : Option (Bool) := (spec_l01In.f (wrap64 (a0)) 97 122).bind fun t144 => (if t144 = true then (some true) else ((spec_l01In.f (wrap64 (a0)) 48 57).bind fun t145 => (some t145)))
def spec_l01Great.f (a0 : Int) : Option (Bool) := (spec_l01In.f (wrap64 (a0)) 65 90).bind fun t146 => (some t146)
def spec_l02Digits.l0 : Nat → ByteArray → Int → Option (Bool)
 | 0, _, _ => none
 | k + 1, x0, x3 => if x3 < (x0.size : Int) then (if 0 ≤ x3 then ((spec_l01In.f (wrap64 (bt x0 x3)) 48 57).bind fun t147 => (if t147 = true then (spec_l02Digits.l0 k x0 (wrap64 (x3 + 1))) else (some false))) else (none)) else (some (x0.toList != ([] : List UInt8)))
def spec_l02Digits.f (k : Nat) (a0 : ByteArray) : Option (Bool) := spec_l02Digits.l0 k a0 0
theorem spec_l02Digits.mono_l : ∀ k, (∀ y0 y1, LeO (spec_l02Digits.l0 k y0 y1) (spec_l02Digits.l0 (k + 1) y0 y1))
 | 0 => fun _ _ r h => by simp [spec_l02Digits.l0] at h
 | k + 1 => by
  have ih0 := spec_l02Digits.mono_l k
  ·intro y0 y1
   unfold spec_l02Digits.l0
   repeat' first
   | (with_reducible exact ih0 _ _) | (with_reducible exact LeO.refl _) | (with_reducible exact LeO.none _) | (with_reducible refine LeO.ite ?_ ?_) | (with_reducible refine LeO.bind ?_ (fun _ => ?_)) | exact ih0 _ _ | exact LeO.none _ | refine LeO.ite ?_ ?_ | refine LeO.bind ?_ (fun _ => ?_)
theorem spec_l02Digits.mono : ∀ a0 k, LeO (spec_l02Digits.f k a0) (spec_l02Digits.f (k + 1) a0) := by
 intro a0 k
 have ih0 := spec_l02Digits.mono_l k
 unfold spec_l02Digits.f
 repeat' first
   | (with_reducible exact ih0 _ _) | (with_reducible exact LeO.refl _) | (with_reducible exact LeO.none _) | (with_reducible refine LeO.ite ?_ ?_) | (with_reducible refine LeO.bind ?_ (fun _ => ?_)) | exact ih0 _ _ | exact LeO.none _ | refine LeO.ite ?_ ?_ | refine LeO.bind ?_ (fun _ => ?_)
def spec_l02Pre.l0 : Nat → ByteArray → Int → Option (Bool)
 | 0, _, _ => none
 | k + 1, x0, x3 => if x3 < (x0.size : Int) then (if 0 ≤ x3 then ((spec_l01Letter.f (bt x0 x3)).bind fun t151 => (if t151 = true then (spec_l02Pre.l0 k x0 (wrap64 (x3 + 1))) else ((spec_l01Great.f (bt x0 x3)).bind fun t152 => (if t152 = true then (spec_l02Pre.l0 k x0 (wrap64 (x3 + 1))) else (if (bt x0 x3) = 45 then (spec_l02Pre.l0 k x0 (wrap64 (x3 + 1))) else (some false)))))) else (none)) else ((spec_l01In.f (x0.size : Int) 1 20).bind fun t148 => (if t148 = true then ((spec_l02Digits.f k x0).bind fun t149 => (if t149 = true then ((spec_ReadDec.f k x0).bind fun t150 => (some (decide (t150 ≥ 0)))) else (some true))) else (some false)))
def spec_l02Pre.f (k : Nat) (a0 : ByteArray) : Option (Bool) := spec_l02Pre.l0 k a0 0
theorem spec_l02Pre.mono_l : ∀ k, (∀ y0 y1, LeO (spec_l02Pre.l0 k y0 y1) (spec_l02Pre.l0 (k + 1) y0 y1))
 | 0 => fun _ _ r h => by simp [spec_l02Pre.l0] at h
 | k + 1 => by
  have ih0 := spec_l02Pre.mono_l k
  ·intro y0 y1
   unfold spec_l02Pre.l0
   repeat' first
   | (with_reducible exact ih0 _ _) | (with_reducible exact spec_ReadDec.mono _ _) | (with_reducible exact spec_l02Digits.mono _ _) | (with_reducible exact LeO.refl _) | (with_reducible exact LeO.none _) | (with_reducible refine LeO.ite ?_ ?_) | (with_reducible refine LeO.bind ?_ (fun _ => ?_)) | exact ih0 _ _ | exact spec_ReadDec.mono _ _ | exact spec_l02Digits.mono _ _ | exact LeO.none _ | refine LeO.ite ?_ ?_ | refine LeO.bind ?_ (fun _ => ?_)
theorem spec_l02Pre.mono : ∀ a0 k, LeO (spec_l02Pre.f k a0) (spec_l02Pre.f (k + 1) a0) := by
 intro a0 k
 have ih0 := spec_l02Pre.mono_l k
 unfold spec_l02Pre.f
 repeat' first
   | (with_reducible exact ih0 _ _) | (with_reducible exact spec_ReadDec.mono _ _) | (with_reducible exact spec_l02Digits.mono _ _) | (with_reducible exact LeO.refl _) | (with_reducible exact LeO.none _) | (with_reducible refine LeO.ite ?_ ?_) | (with_reducible refine LeO.bind ?_ (fun _ => ?_)) | exact ih0 _ _ | exact spec_ReadDec.mono _ _ | exact spec_l02Digits.mono _ _ | exact LeO.none _ | refine LeO.ite ?_ ?_ | refine LeO.bind ?_ (fun _ => ?_)
def spec_VersionOk.l0 : Nat → Int → Int → Int → Int → List ByteArray → Option (Bool)
 | 0, _, _, _, _, _ => none
 | k + 1, x3, x154000, x154001, x154002, x154003 => if x3 < (x154003.length : Int) then (if 0 ≤ x3 then ((spec_l02Pre.f k (rdOf ByteArray.empty x154003 x3)).bind fun t155 => (if t155 = true then (spec_VersionOk.l0 k (wrap64 (x3 + 1)) x154000 x154001 x154002 x154003) else (some false))) else (none)) else ((spec_l01In.f x154000 0 999999999).bind fun t156 => (if t156 = true then ((spec_l01In.f x154001 0 999999999).bind fun t157 => (if t157 = true then ((spec_l01In.f x154002 0 999999999).bind fun t158 => (if t158 = true then (some (decide ((x154003.length : Int) ≤ 5))) else (some false))) else (some false))) else (some false)))
def spec_VersionOk.f (k : Nat) (a0_0 : Int) (a0_1 : Int) (a0_2 : Int) (l0_3 : List ByteArray) : Option (Bool) := spec_VersionOk.l0 k 0 a0_0 a0_1 a0_2 l0_3
theorem spec_VersionOk.mono_l : ∀ k, (∀ y0 y1 y2 y3 y4, LeO (spec_VersionOk.l0 k y0 y1 y2 y3 y4) (spec_VersionOk.l0 (k + 1) y0 y1 y2 y3 y4))
 | 0 => fun _ _ _ _ _ r h => by simp [spec_VersionOk.l0] at h
 | k + 1 => by
  have ih0 := spec_VersionOk.mono_l k
  ·intro y0 y1 y2 y3 y4
   unfold spec_VersionOk.l0
   repeat' first
   | (with_reducible exact ih0 _ _ _ _ _) | (with_reducible exact spec_l02Pre.mono _ _) | (with_reducible exact LeO.refl _) | (with_reducible exact LeO.none _) | (with_reducible refine LeO.ite ?_ ?_) | (with_reducible refine LeO.bind ?_ (fun _ => ?_)) | exact ih0 _ _ _ _ _ | exact spec_l02Pre.mono _ _ | exact LeO.none _ | refine LeO.ite ?_ ?_ | refine LeO.bind ?_ (fun _ => ?_)
theorem spec_VersionOk.mono : ∀ a0 a1 a2 a3 k, LeO (spec_VersionOk.f k a0 a1 a2 a3) (spec_VersionOk.f (k + 1) a0 a1 a2 a3) := by
 intro a0 a1 a2 a3 k
 have ih0 := spec_VersionOk.mono_l k
 unfold spec_VersionOk.f
 repeat' first
   | (with_reducible exact ih0 _ _ _ _ _) | (with_reducible exact spec_l02Pre.mono _ _) | (with_reducible exact LeO.refl _) | (with_reducible exact LeO.none _) | (with_reducible refine LeO.ite ?_ ?_) | (with_reducible refine LeO.bind ?_ (fun _ => ?_)) | exact ih0 _ _ _ _ _ | exact spec_l02Pre.mono _ _ | exact LeO.none _ | refine LeO.ite ?_ ?_ | refine LeO.bind ?_ (fun _ => ?_)
def spec_VersionText.l0 : Nat → ByteArray → Int → Int → Int → Int → List ByteArray → Option (ByteArray)
 | 0, _, _, _, _, _, _ => none
 | k + 1, x3, x4, x160000, x160001, x160002, x160003 => if x4 < (x160003.length : Int) then (if x4 = 0 then (if x3.size + 1 ≤ 9223372036854775807 then (if 0 ≤ x4 then (if (x3 ++ (⟨#[45]⟩ : ByteArray)).size + (rdOf ByteArray.empty x160003 x4).size ≤ 9223372036854775807 then (spec_VersionText.l0 k ((x3 ++ (⟨#[45]⟩ : ByteArray)) ++ (rdOf ByteArray.empty x160003 x4)) (wrap64 (x4 + 1)) x160000 x160001 x160002 x160003) else (none)) else (none)) else (none)) else (if x3.size + 1 ≤ 9223372036854775807 then (if 0 ≤ x4 then (if (x3 ++ (⟨#[46]⟩ : ByteArray)).size + (rdOf ByteArray.empty x160003 x4).size ≤ 9223372036854775807 then (spec_VersionText.l0 k ((x3 ++ (⟨#[46]⟩ : ByteArray)) ++ (rdOf ByteArray.empty x160003 x4)) (wrap64 (x4 + 1)) x160000 x160001 x160002 x160003) else (none)) else (none)) else (none))) else (some x3)
def spec_VersionText.f (k : Nat) (a0_0 : Int) (a0_1 : Int) (a0_2 : Int) (l0_3 : List ByteArray) : Option (ByteArray) := (spec_VersionOk.f k a0_0 a0_1 a0_2 l0_3).bind fun t160 => (if t160 = true then ((spec_DecText.f k a0_0).bind fun t161 => (if t161.size + 1 ≤ 9223372036854775807 then ((spec_DecText.f k a0_1).bind fun t162 => (if (t161 ++ (⟨#[46]⟩ : ByteArray)).size + t162.size ≤ 9223372036854775807 then (if ((t161 ++ (⟨#[46]⟩ : ByteArray)) ++ t162).size + 1 ≤ 9223372036854775807 then ((spec_DecText.f k a0_2).bind fun t163 => (if (((t161 ++ (⟨#[46]⟩ : ByteArray)) ++ t162) ++ (⟨#[46]⟩ : ByteArray)).size + t163.size ≤ 9223372036854775807 then (spec_VersionText.l0 k ((((t161 ++ (⟨#[46]⟩ : ByteArray)) ++ t162) ++ (⟨#[46]⟩ : ByteArray)) ++ t163) 0 a0_0 a0_1 a0_2 l0_3) else (none))) else (none)) else (none))) else (none))) else (some (⟨#[]⟩ : ByteArray)))
theorem spec_VersionText.mono_l : ∀ k, (∀ y0 y1 y2 y3 y4 y5, LeO (spec_VersionText.l0 k y0 y1 y2 y3 y4 y5) (spec_VersionText.l0 (k + 1) y0 y1 y2 y3 y4 y5))
 | 0 => fun _ _ _ _ _ _ r h => by simp [spec_VersionText.l0] at h
 | k + 1 => by
  have ih0 := spec_VersionText.mono_l k
  ·intro y0 y1 y2 y3 y4 y5
   unfold spec_VersionText.l0
   repeat' first
   | (with_reducible exact ih0 _ _ _ _ _ _) | (with_reducible exact spec_DecText.mono _ _) | (with_reducible exact spec_VersionOk.mono _ _ _ _ _) | (with_reducible exact LeO.refl _) | (with_reducible exact LeO.none _) | (with_reducible refine LeO.ite ?_ ?_) | (with_reducible refine LeO.bind ?_ (fun _ => ?_)) | exact ih0 _ _ _ _ _ _ | exact spec_DecText.mono _ _ | exact spec_VersionOk.mono _ _ _ _ _ | exact LeO.none _ | refine LeO.ite ?_ ?_ | refine LeO.bind ?_ (fun _ => ?_)
theorem spec_VersionText.mono : ∀ a0 a1 a2 a3 k, LeO (spec_VersionText.f k a0 a1 a2 a3) (spec_VersionText.f (k + 1) a0 a1 a2 a3) := by
 intro a0 a1 a2 a3 k
 have ih0 := spec_VersionText.mono_l k
 unfold spec_VersionText.f
 repeat' first
   | (with_reducible exact ih0 _ _ _ _ _ _) | (with_reducible exact spec_DecText.mono _ _) | (with_reducible exact spec_VersionOk.mono _ _ _ _ _) | (with_reducible exact LeO.refl _) | (with_reducible exact LeO.none _) | (with_reducible refine LeO.ite ?_ ?_) | (with_reducible refine LeO.bind ?_ (fun _ => ?_)) | exact ih0 _ _ _ _ _ _ | exact spec_DecText.mono _ _ | exact spec_VersionOk.mono _ _ _ _ _ | exact LeO.none _ | refine LeO.ite ?_ ?_ | refine LeO.bind ?_ (fun _ => ?_)
def spec_l01Once.f (s0_0 : List Int) (s0_1 : Int) (s0_2 : Int) (a1 : Int) : Option (Bool × Int × Int) := (spec_l01Below.f s0_0 s0_1 s0_2 a1).bind fun bt166 => (some ((bt166.1 == 0), bt166.2.1, bt166.2.2))
def spec_l01PickInt.f (s0_0 : List Int) (s0_1 : Int) (s0_2 : Int) (l1 : List Int) : Option (Int × Int × Int) := (spec_l01Below.f s0_0 s0_1 s0_2 (l1.length : Int)).bind fun bt169 => (if 0 ≤ bt169.1 then (if bt169.1 < (l1.length : Int) then (some (rd l1 bt169.1, bt169.2.1, bt169.2.2)) else (none)) else (none))
def spec_l02Version.j0 : Nat → List Int → Int → Int → Int → Int → Int → List ByteArray → Option (Int × Int × Int × List ByteArray × Int × Int)
 | 0, _, _, _, _, _, _, _ => none
 | k + 1, x1000, x1001, x1002, x193000, x193001, x193002, x193003 => (spec_l01Below.f x1000 x1001 x1002 24).bind fun bt217 => (if bt217.1 = 0 then ((spec_l01PickInt.f x1000 bt217.2.1 bt217.2.2 (([(-1), 999999999, 1000000000] : List Int))).bind fun bt223 => (some (x193000, bt223.1, x193002, x193003, bt223.2.1, bt223.2.2))) else (if bt217.1 = 1 then ((spec_l01Pick.f x1000 bt217.2.1 bt217.2.2 (([(⟨#[]⟩ : ByteArray), (⟨#[48, 49]⟩ : ByteArray), (⟨#[97, 95, 98]⟩ : ByteArray), (⟨#[49, 48, 48, 48, 48, 48, 48, 48, 48, 48]⟩ : ByteArray), (⟨#[97, 98, 99, 100, 101, 102, 103, 104, 105, 106, 107, 108, 109, 110, 111, 112, 113, 114, 115, 116]⟩ : ByteArray), (⟨#[97, 98, 99, 100, 101, 102, 103, 104, 105, 106, 107, 108, 109, 110, 111, 112, 113, 114, 115, 116, 117]⟩ : ByteArray)] : List ByteArray))).bind fun bt229 => (if x193003.length < 8796093022208 then (some (x193000, x193001, x193002, (x193003 ++ [bt229.1]), bt229.2.1, bt229.2.2)) else (none))) else (if bt217.1 = 2 then ((some (([(⟨#[97]⟩ : ByteArray), (⟨#[98]⟩ : ByteArray), (⟨#[99]⟩ : ByteArray), (⟨#[100]⟩ : ByteArray), (⟨#[101]⟩ : ByteArray)] : List ByteArray) : List ByteArray)).bind fun y235 => ((spec_l01Once.f x1000 bt217.2.1 bt217.2.2 2).bind fun bt238 => (if bt238.1 = true then (if y235.length < 8796093022208 then (some (x193000, x193001, x193002, (y235 ++ [(⟨#[102]⟩ : ByteArray)]), bt238.2.1, bt238.2.2)) else (none)) else (some (x193000, x193001, x193002, y235, bt238.2.1, bt238.2.2))))) else (some (x193000, x193001, x193002, x193003, bt217.2.1, bt217.2.2)))))
def spec_l02Version.f (k : Nat) (s0_0 : List Int) (s0_1 : Int) (s0_2 : Int) : Option (Int × Int × Int × List ByteArray × Int × Int) := (spec_l01PickInt.f s0_0 s0_1 s0_2 (([0, 1, 1, 2, 10] : List Int))).bind fun bt177 => ((spec_l01PickInt.f s0_0 bt177.2.1 bt177.2.2 (([0, 0, 1, 2, 12] : List Int))).bind fun bt183 => ((spec_l01PickInt.f s0_0 bt183.2.1 bt183.2.2 (([0, 0, 1, 3, 9] : List Int))).bind fun bt189 => ((spec_l01Once.f s0_0 bt189.2.1 bt189.2.2 4).bind fun bt193 => (if bt193.1 = true then ((spec_l01Pick.f s0_0 bt193.2.1 bt193.2.2 (([(⟨#[114, 99]⟩ : ByteArray), (⟨#[98, 101, 116, 97]⟩ : ByteArray), (⟨#[49]⟩ : ByteArray), (⟨#[48]⟩ : ByteArray), (⟨#[120, 45, 121]⟩ : ByteArray)] : List ByteArray))).bind fun bt199 => ((some (([bt199.1] : List ByteArray) : List ByteArray)).bind fun y202 => ((spec_l01Once.f s0_0 bt199.2.1 bt199.2.2 2).bind fun bt205 => (if bt205.1 = true then ((spec_l01Pick.f s0_0 bt205.2.1 bt205.2.2 (([(⟨#[49]⟩ : ByteArray), (⟨#[50]⟩ : ByteArray), (⟨#[49, 48]⟩ : ByteArray), (⟨#[97]⟩ : ByteArray)] : List ByteArray))).bind fun bt211 => (if y202.length < 8796093022208 then (spec_l02Version.j0 k s0_0 bt211.2.1 bt211.2.2 bt177.1 bt183.1 bt189.1 (y202 ++ [bt211.1])) else (none))) else (spec_l02Version.j0 k s0_0 bt205.2.1 bt205.2.2 bt177.1 bt183.1 bt189.1 y202))))) else (spec_l02Version.j0 k s0_0 bt193.2.1 bt193.2.2 bt177.1 bt183.1 bt189.1 ([] : List ByteArray))))))
theorem spec_l02Version.mono_l : ∀ k, (∀ y0 y1 y2 y3 y4 y5 y6, LeO (spec_l02Version.j0 k y0 y1 y2 y3 y4 y5 y6) (spec_l02Version.j0 (k + 1) y0 y1 y2 y3 y4 y5 y6))
 | 0 => fun _ _ _ _ _ _ _ r h => by simp [spec_l02Version.j0] at h
 | k + 1 => by
  have ih0 := spec_l02Version.mono_l k
  ·intro y0 y1 y2 y3 y4 y5 y6
   unfold spec_l02Version.j0
   repeat' first
   | (with_reducible exact ih0 _ _ _ _ _ _ _) | (with_reducible exact LeO.refl _) | (with_reducible exact LeO.none _) | (with_reducible refine LeO.ite ?_ ?_) | (with_reducible refine LeO.bind ?_ (fun _ => ?_)) | exact ih0 _ _ _ _ _ _ _ | exact LeO.none _ | refine LeO.ite ?_ ?_ | refine LeO.bind ?_ (fun _ => ?_)
theorem spec_l02Version.mono : ∀ a0 a1 a2 k, LeO (spec_l02Version.f k a0 a1 a2) (spec_l02Version.f (k + 1) a0 a1 a2) := by
 intro a0 a1 a2 k
 have ih0 := spec_l02Version.mono_l k
 unfold spec_l02Version.f
 repeat' first
   | (with_reducible exact ih0 _ _ _ _ _ _ _) | (with_reducible exact LeO.refl _) | (with_reducible exact LeO.none _) | (with_reducible refine LeO.ite ?_ ?_) | (with_reducible refine LeO.bind ?_ (fun _ => ?_)) | exact ih0 _ _ _ _ _ _ _ | exact LeO.none _ | refine LeO.ite ?_ ?_ | refine LeO.bind ?_ (fun _ => ?_)
def spec_l02Right.f (k : Nat) (s0_0 : List Int) (s0_1 : Int) (s0_2 : Int) : Option (ByteArray × Int × Int) := (spec_l02Version.f k s0_0 s0_1 s0_2).bind fun bt244 => ((spec_VersionText.f k bt244.1 bt244.2.1 bt244.2.2.1 bt244.2.2.2.1).bind fun t252 => (if t252.toList = ([] : List UInt8) then (some ((⟨#[49, 46, 48, 46, 48]⟩ : ByteArray), bt244.2.2.2.2.1, bt244.2.2.2.2.2)) else (some (t252, bt244.2.2.2.2.1, bt244.2.2.2.2.2))))
theorem spec_l02Right.mono : ∀ a0 a1 a2 k, LeO (spec_l02Right.f k a0 a1 a2) (spec_l02Right.f (k + 1) a0 a1 a2) := by
 intro a0 a1 a2 k
 unfold spec_l02Right.f
 repeat' first
   | (with_reducible exact spec_VersionText.mono _ _ _ _ _) | (with_reducible exact spec_l02Version.mono _ _ _ _) | (with_reducible exact LeO.refl _) | (with_reducible exact LeO.none _) | (with_reducible refine LeO.ite ?_ ?_) | (with_reducible refine LeO.bind ?_ (fun _ => ?_)) | exact spec_VersionText.mono _ _ _ _ _ | exact spec_l02Version.mono _ _ _ _ | exact LeO.none _ | refine LeO.ite ?_ ?_ | refine LeO.bind ?_ (fun _ => ?_)
def spec_l02List.l0 : Nat → List ByteArray → Int → Int → List Int → Int → Int → Option (List ByteArray × Int × Int)
 | 0, _, _, _, _, _, _ => none
 | k + 1, x3, x4, x5, x1000, x1001, x1002 => if x5 < x4 then ((spec_l02Right.f k x1000 x1001 x1002).bind fun bt259 => ((spec_l01Bent.f x1000 bt259.2.1 bt259.2.2 bt259.1).bind fun bt262 => (if x3.length < 8796093022208 then (spec_l02List.l0 k (x3 ++ [bt262.1]) x4 (wrap64 (x5 + 1)) x1000 bt262.2.1 bt262.2.2) else (none)))) else (some (x3, x1001, x1002))
def spec_l02List.f (k : Nat) (s0_0 : List Int) (s0_1 : Int) (s0_2 : Int) : Option (List ByteArray × Int × Int) := (spec_l01Below.f s0_0 s0_1 s0_2 6).bind fun bt256 => (spec_l02List.l0 k (([] : List ByteArray)) bt256.1 0 s0_0 bt256.2.1 bt256.2.2)
theorem spec_l02List.mono_l : ∀ k, (∀ y0 y1 y2 y3 y4 y5, LeO (spec_l02List.l0 k y0 y1 y2 y3 y4 y5) (spec_l02List.l0 (k + 1) y0 y1 y2 y3 y4 y5))
 | 0 => fun _ _ _ _ _ _ r h => by simp [spec_l02List.l0] at h
 | k + 1 => by
  have ih0 := spec_l02List.mono_l k
  ·intro y0 y1 y2 y3 y4 y5
   unfold spec_l02List.l0
   repeat' first
   | (with_reducible exact ih0 _ _ _ _ _ _) | (with_reducible exact spec_l02Right.mono _ _ _ _) | (with_reducible exact LeO.refl _) | (with_reducible exact LeO.none _) | (with_reducible refine LeO.ite ?_ ?_) | (with_reducible refine LeO.bind ?_ (fun _ => ?_)) | exact ih0 _ _ _ _ _ _ | exact spec_l02Right.mono _ _ _ _ | exact LeO.none _ | refine LeO.ite ?_ ?_ | refine LeO.bind ?_ (fun _ => ?_)
theorem spec_l02List.mono : ∀ a0 a1 a2 k, LeO (spec_l02List.f k a0 a1 a2) (spec_l02List.f (k + 1) a0 a1 a2) := by
 intro a0 a1 a2 k
 have ih0 := spec_l02List.mono_l k
 unfold spec_l02List.f
 repeat' first
   | (with_reducible exact ih0 _ _ _ _ _ _) | (with_reducible exact spec_l02Right.mono _ _ _ _) | (with_reducible exact LeO.refl _) | (with_reducible exact LeO.none _) | (with_reducible refine LeO.ite ?_ ?_) | (with_reducible refine LeO.bind ?_ (fun _ => ?_)) | exact ih0 _ _ _ _ _ _ | exact spec_l02Right.mono _ _ _ _ | exact LeO.none _ | refine LeO.ite ?_ ?_ | refine LeO.bind ?_ (fun _ => ?_)
def spec_l03Parts.l0 : Nat → ByteArray → List ByteArray → Int → Int → Option (List ByteArray)
 | 0, _, _, _, _ => none
 | k + 1, x0, x3, x4, x5 => if (wrap64 (x5 + 4)) ≤ (x0.size : Int) then (if x5 ≥ x4 then (if 0 ≤ x5 then (if x5 ≤ (wrap64 (x5 + 4)) then (if (x0.extract (x5 : Int).toNat ((wrap64 (x5 + 4)) : Int).toNat).toList = ([32, 124, 124, 32] : List UInt8) then (if 0 ≤ x4 then (if x4 ≤ x5 then (if x5 ≤ (x0.size : Int) then (if x3.length < 8796093022208 then (spec_l03Parts.l0 k x0 (x3 ++ [x0.extract (x4 : Int).toNat (x5 : Int).toNat]) (wrap64 (x5 + 4)) (wrap64 (x5 + 1))) else (none)) else (none)) else (none)) else (none)) else (spec_l03Parts.l0 k x0 x3 x4 (wrap64 (x5 + 1)))) else (none)) else (none)) else (spec_l03Parts.l0 k x0 x3 x4 (wrap64 (x5 + 1)))) else (if 0 ≤ x4 then (if x4 ≤ (x0.size : Int) then (if x3.length < 8796093022208 then (some (x3 ++ [x0.extract (x4 : Int).toNat x0.size])) else (none)) else (none)) else (none))
def spec_l03Parts.f (k : Nat) (a0 : ByteArray) : Option (List ByteArray) := spec_l03Parts.l0 k a0 (([] : List ByteArray)) 0 0
theorem spec_l03Parts.mono_l : ∀ k, (∀ y0 y1 y2 y3, LeO (spec_l03Parts.l0 k y0 y1 y2 y3) (spec_l03Parts.l0 (k + 1) y0 y1 y2 y3))
 | 0 => fun _ _ _ _ r h => by simp [spec_l03Parts.l0] at h
 | k + 1 => by
  have ih0 := spec_l03Parts.mono_l k
  ·intro y0 y1 y2 y3
   unfold spec_l03Parts.l0
   repeat' first
   | (with_reducible exact ih0 _ _ _ _) | (with_reducible exact LeO.refl _) | (with_reducible exact LeO.none _) | (with_reducible refine LeO.ite ?_ ?_) | (with_reducible refine LeO.bind ?_ (fun _ => ?_)) | exact ih0 _ _ _ _ | exact LeO.none _ | refine LeO.ite ?_ ?_ | refine LeO.bind ?_ (fun _ => ?_)
theorem spec_l03Parts.mono : ∀ a0 k, LeO (spec_l03Parts.f k a0) (spec_l03Parts.f (k + 1) a0) := by
 intro a0 k
 have ih0 := spec_l03Parts.mono_l k
 unfold spec_l03Parts.f
 repeat' first
   | (with_reducible exact ih0 _ _ _ _) | (with_reducible exact LeO.refl _) | (with_reducible exact LeO.none _) | (with_reducible refine LeO.ite ?_ ?_) | (with_reducible refine LeO.bind ?_ (fun _ => ?_)) | exact ih0 _ _ _ _ | exact LeO.none _ | refine LeO.ite ?_ ?_ | refine LeO.bind ?_ (fun _ => ?_)
def spec_l01At.l0 : Nat → ByteArray → Int → Int → Option (Int)
 | 0, _, _, _ => none
 | k + 1, x0, x1, x5 => if x5 < (x0.size : Int) then (if 0 ≤ x5 then (if (bt x0 x5) = x1 then (some x5) else (spec_l01At.l0 k x0 x1 (wrap64 (x5 + 1)))) else (none)) else (some (-1))
def spec_l01At.f (k : Nat) (a0 : ByteArray) (a1 : Int) : Option (Int) := spec_l01At.l0 k a0 a1 0
theorem spec_l01At.mono_l : ∀ k, (∀ y0 y1 y2, LeO (spec_l01At.l0 k y0 y1 y2) (spec_l01At.l0 (k + 1) y0 y1 y2))
 | 0 => fun _ _ _ r h => by simp [spec_l01At.l0] at h
 | k + 1 => by
  have ih0 := spec_l01At.mono_l k
  ·intro y0 y1 y2
   unfold spec_l01At.l0
   repeat' first
   | (with_reducible exact ih0 _ _ _) | (with_reducible exact LeO.refl _) | (with_reducible exact LeO.none _) | (with_reducible refine LeO.ite ?_ ?_) | (with_reducible refine LeO.bind ?_ (fun _ => ?_)) | exact ih0 _ _ _ | exact LeO.none _ | refine LeO.ite ?_ ?_ | refine LeO.bind ?_ (fun _ => ?_)
theorem spec_l01At.mono : ∀ a0 a1 k, LeO (spec_l01At.f k a0 a1) (spec_l01At.f (k + 1) a0 a1) := by
 intro a0 a1 k
 have ih0 := spec_l01At.mono_l k
 unfold spec_l01At.f
 repeat' first
   | (with_reducible exact ih0 _ _ _) | (with_reducible exact LeO.refl _) | (with_reducible exact LeO.none _) | (with_reducible refine LeO.ite ?_ ?_) | (with_reducible refine LeO.bind ?_ (fun _ => ?_)) | exact ih0 _ _ _ | exact LeO.none _ | refine LeO.ite ?_ ?_ | refine LeO.bind ?_ (fun _ => ?_)
def spec_l01Cut.l0 : Nat → ByteArray → Int → List ByteArray → Int → Int → Option (List ByteArray)
 | 0, _, _, _, _, _ => none
 | k + 1, x0, x1, x5, x6, x7 => if x7 < (x0.size : Int) then (if 0 ≤ x7 then (if (bt x0 x7) = x1 then (if 0 ≤ x6 then (if x6 ≤ x7 then (if x7 ≤ (x0.size : Int) then (if x5.length < 8796093022208 then (spec_l01Cut.l0 k x0 x1 (x5 ++ [x0.extract (x6 : Int).toNat (x7 : Int).toNat]) (wrap64 (x7 + 1)) (wrap64 (x7 + 1))) else (none)) else (none)) else (none)) else (none)) else (spec_l01Cut.l0 k x0 x1 x5 x6 (wrap64 (x7 + 1)))) else (none)) else (if 0 ≤ x6 then (if x6 ≤ (x0.size : Int) then (if x5.length < 8796093022208 then (some (x5 ++ [x0.extract (x6 : Int).toNat x0.size])) else (none)) else (none)) else (none))
def spec_l01Cut.f (k : Nat) (a0 : ByteArray) (a1 : Int) : Option (List ByteArray) := spec_l01Cut.l0 k a0 a1 (([] : List ByteArray)) 0 0
theorem spec_l01Cut.mono_l : ∀ k, (∀ y0 y1 y2 y3 y4, LeO (spec_l01Cut.l0 k y0 y1 y2 y3 y4) (spec_l01Cut.l0 (k + 1) y0 y1 y2 y3 y4))
 | 0 => fun _ _ _ _ _ r h => by simp [spec_l01Cut.l0] at h
 | k + 1 => by
  have ih0 := spec_l01Cut.mono_l k
  ·intro y0 y1 y2 y3 y4
   unfold spec_l01Cut.l0
   repeat' first
   | (with_reducible exact ih0 _ _ _ _ _) | (with_reducible exact LeO.refl _) | (with_reducible exact LeO.none _) | (with_reducible refine LeO.ite ?_ ?_) | (with_reducible refine LeO.bind ?_ (fun _ => ?_)) | exact ih0 _ _ _ _ _ | exact LeO.none _ | refine LeO.ite ?_ ?_ | refine LeO.bind ?_ (fun _ => ?_)
theorem spec_l01Cut.mono : ∀ a0 a1 k, LeO (spec_l01Cut.f k a0 a1) (spec_l01Cut.f (k + 1) a0 a1) := by
 intro a0 a1 k
 have ih0 := spec_l01Cut.mono_l k
 unfold spec_l01Cut.f
 repeat' first
   | (with_reducible exact ih0 _ _ _ _ _) | (with_reducible exact LeO.refl _) | (with_reducible exact LeO.none _) | (with_reducible refine LeO.ite ?_ ?_) | (with_reducible refine LeO.bind ?_ (fun _ => ?_)) | exact ih0 _ _ _ _ _ | exact LeO.none _ | refine LeO.ite ?_ ?_ | refine LeO.bind ?_ (fun _ => ?_)
def spec_ReadVersion.j0 : Nat → ByteArray → ByteArray → Int → Int → Int → List ByteArray → Option (Int × Int × Int × List ByteArray × Bool)
 | 0, _, _, _, _, _, _ => none
 | k + 1, x0, x5, x288000, x288001, x288002, x288003 => (spec_l01Cut.f k x5 46).bind fun t292 => (if (t292.length : Int) = 3 then (if 0 < (t292.length : Int) then ((spec_ReadDec.f k (rdOf ByteArray.empty t292 0)).bind fun t296 => (if 1 < (t292.length : Int) then ((spec_ReadDec.f k (rdOf ByteArray.empty t292 1)).bind fun t298 => (if 2 < (t292.length : Int) then ((spec_ReadDec.f k (rdOf ByteArray.empty t292 2)).bind fun t300 => ((spec_VersionText.f k t296 t298 t300 x288003).bind fun t301 => (if t301.toList = x0.toList then (some (t296, t298, t300, x288003, true)) else (some (0, 0, 0, ([] : List ByteArray), false))))) else (none))) else (none))) else (none)) else (some (0, 0, 0, ([] : List ByteArray), false)))
def spec_ReadVersion.f (k : Nat) (a0 : ByteArray) : Option (Int × Int × Int × List ByteArray × Bool) := (spec_l01At.f k a0 45).bind fun t288 => (if t288 ≥ 0 then (if 0 ≤ t288 then (if t288 ≤ (a0.size : Int) then (if 0 ≤ (wrap64 (t288 + 1)) then (if (wrap64 (t288 + 1)) ≤ (a0.size : Int) then ((spec_l01Cut.f k (a0.extract ((wrap64 (t288 + 1)) : Int).toNat a0.size) 46).bind fun t289 => (spec_ReadVersion.j0 k a0 (a0.extract 0 (t288 : Int).toNat) 0 0 0 t289)) else (none)) else (none)) else (none)) else (none)) else (spec_ReadVersion.j0 k a0 a0 0 0 0 ([] : List ByteArray)))
theorem spec_ReadVersion.mono_l : ∀ k, (∀ y0 y1 y2 y3 y4 y5, LeO (spec_ReadVersion.j0 k y0 y1 y2 y3 y4 y5) (spec_ReadVersion.j0 (k + 1) y0 y1 y2 y3 y4 y5))
 | 0 => fun _ _ _ _ _ _ r h => by simp [spec_ReadVersion.j0] at h
 | k + 1 => by
  have ih0 := spec_ReadVersion.mono_l k
  ·intro y0 y1 y2 y3 y4 y5
   unfold spec_ReadVersion.j0
   repeat' first
   | (with_reducible exact ih0 _ _ _ _ _ _) | (with_reducible exact spec_ReadDec.mono _ _) | (with_reducible exact spec_VersionText.mono _ _ _ _ _) | (with_reducible exact spec_l01At.mono _ _ _) | (with_reducible exact spec_l01Cut.mono _ _ _) | (with_reducible exact LeO.refl _) | (with_reducible exact LeO.none _) | (with_reducible refine LeO.ite ?_ ?_) | (with_reducible refine LeO.bind ?_ (fun _ => ?_)) | exact ih0 _ _ _ _ _ _ | exact spec_ReadDec.mono _ _ | exact spec_VersionText.mono _ _ _ _ _ | exact spec_l01At.mono _ _ _ | exact spec_l01Cut.mono _ _ _ | exact LeO.none _ | refine LeO.ite ?_ ?_ | refine LeO.bind ?_ (fun _ => ?_)
theorem spec_ReadVersion.mono : ∀ a0 k, LeO (spec_ReadVersion.f k a0) (spec_ReadVersion.f (k + 1) a0) := by
 intro a0 k
 have ih0 := spec_ReadVersion.mono_l k
 unfold spec_ReadVersion.f
 repeat' first
   | (with_reducible exact ih0 _ _ _ _ _ _) | (with_reducible exact spec_ReadDec.mono _ _) | (with_reducible exact spec_VersionText.mono _ _ _ _ _) | (with_reducible exact spec_l01At.mono _ _ _) | (with_reducible exact spec_l01Cut.mono _ _ _) | (with_reducible exact LeO.refl _) | (with_reducible exact LeO.none _) | (with_reducible refine LeO.ite ?_ ?_) | (with_reducible refine LeO.bind ?_ (fun _ => ?_)) | exact ih0 _ _ _ _ _ _ | exact spec_ReadDec.mono _ _ | exact spec_VersionText.mono _ _ _ _ _ | exact spec_l01At.mono _ _ _ | exact spec_l01Cut.mono _ _ _ | exact LeO.none _ | refine LeO.ite ?_ ?_ | refine LeO.bind ?_ (fun _ => ?_)
def spec_l02Less.f (a0 : Int) (a1 : Int) : Option (Int) := if a0 < a1 then (some (-1)) else (if a0 > a1 then (some 1) else (some 0))
def spec_l02Texts.f (a0 : ByteArray) (a1 : ByteArray) : Option (Int) := if (Op.bytesLess a0.toList a1.toList) = true then (some (-1)) else (if (Op.bytesLess a1.toList a0.toList) = true then (some 1) else (some 0))
def spec_l02Part.j0 : Nat → ByteArray → ByteArray → Int → Int → Bool → Option (Int)
 | 0, _, _, _, _, _ => none
 | k + 1, x0, x1, x5, x6, x11 => if x11 = true then ((spec_l02Less.f x5 x6).bind fun t304 => (some t304)) else (if x5 ≥ 0 then (some (-1)) else (if x6 ≥ 0 then (some 1) else ((spec_l02Texts.f x0 x1).bind fun t305 => (some t305))))
def spec_l02Part.f (k : Nat) (a0 : ByteArray) (a1 : ByteArray) : Option (Int) := (spec_ReadDec.f k a0).bind fun t302 => ((spec_ReadDec.f k a1).bind fun t303 => (if t302 ≥ 0 then (spec_l02Part.j0 k a0 a1 t302 t303 (decide (t303 ≥ 0))) else (spec_l02Part.j0 k a0 a1 t302 t303 false)))
theorem spec_l02Part.mono_l : ∀ k, (∀ y0 y1 y2 y3 y4, LeO (spec_l02Part.j0 k y0 y1 y2 y3 y4) (spec_l02Part.j0 (k + 1) y0 y1 y2 y3 y4))
 | 0 => fun _ _ _ _ _ r h => by simp [spec_l02Part.j0] at h
 | k + 1 => by
  have ih0 := spec_l02Part.mono_l k
  ·intro y0 y1 y2 y3 y4
   unfold spec_l02Part.j0
   repeat' first
   | (with_reducible exact ih0 _ _ _ _ _) | (with_reducible exact spec_ReadDec.mono _ _) | (with_reducible exact LeO.refl _) | (with_reducible exact LeO.none _) | (with_reducible refine LeO.ite ?_ ?_) | (with_reducible refine LeO.bind ?_ (fun _ => ?_)) | exact ih0 _ _ _ _ _ | exact spec_ReadDec.mono _ _ | exact LeO.none _ | refine LeO.ite ?_ ?_ | refine LeO.bind ?_ (fun _ => ?_)
theorem spec_l02Part.mono : ∀ a0 a1 k, LeO (spec_l02Part.f k a0 a1) (spec_l02Part.f (k + 1) a0 a1) := by
 intro a0 a1 k
 have ih0 := spec_l02Part.mono_l k
 unfold spec_l02Part.f
 repeat' first
   | (with_reducible exact ih0 _ _ _ _ _) | (with_reducible exact spec_ReadDec.mono _ _) | (with_reducible exact LeO.refl _) | (with_reducible exact LeO.none _) | (with_reducible refine LeO.ite ?_ ?_) | (with_reducible refine LeO.bind ?_ (fun _ => ?_)) | exact ih0 _ _ _ _ _ | exact spec_ReadDec.mono _ _ | exact LeO.none _ | refine LeO.ite ?_ ?_ | refine LeO.bind ?_ (fun _ => ?_)
mutual
def spec_CompareVersion.l0 : Nat → List Int → Int → Int → Int → Int → List ByteArray → Int → Int → Int → List ByteArray → Option (Int)
 | 0, _, _, _, _, _, _, _, _, _, _ => none
 | k + 1, x5, x6, x307000, x307001, x307002, x307003, x308000, x308001, x308002, x308003 => if x6 < 3 then (if 0 ≤ x6 then (if x6 < (x5.length : Int) then (if (rd x5 x6) = 0 then (spec_CompareVersion.l0 k x5 (wrap64 (x6 + 1)) x307000 x307001 x307002 x307003 x308000 x308001 x308002 x308003) else (some (rd x5 x6))) else (none)) else (none)) else (if (x307003.length : Int) = 0 then (spec_CompareVersion.j1 k true x307000 x307001 x307002 x307003 x308000 x308001 x308002 x308003) else (spec_CompareVersion.j1 k ((x308003.length : Int) == 0) x307000 x307001 x307002 x307003 x308000 x308001 x308002 x308003))
def spec_CompareVersion.j1 : Nat → Bool → Int → Int → Int → List ByteArray → Int → Int → Int → List ByteArray → Option (Int)
 | 0, _, _, _, _, _, _, _, _, _ => none
 | k + 1, x47, x307000, x307001, x307002, x307003, x308000, x308001, x308002, x308003 => if x47 = true then ((spec_l02Less.f (x308003.length : Int) (x307003.length : Int)).bind fun t316 => (some t316)) else (spec_CompareVersion.l1 k 0 x307000 x307001 x307002 x307003 x308000 x308001 x308002 x308003)
def spec_CompareVersion.l1 : Nat → Int → Int → Int → Int → List ByteArray → Int → Int → Int → List ByteArray → Option (Int)
 | 0, _, _, _, _, _, _, _, _, _ => none
 | k + 1, x7, x307000, x307001, x307002, x307003, x308000, x308001, x308002, x308003 => if x7 < (x307003.length : Int) then (spec_CompareVersion.j3 k x7 (decide (x7 < (x308003.length : Int))) x307000 x307001 x307002 x307003 x308000 x308001 x308002 x308003) else (spec_CompareVersion.j3 k x7 false x307000 x307001 x307002 x307003 x308000 x308001 x308002 x308003)
def spec_CompareVersion.j3 : Nat → Int → Bool → Int → Int → Int → List ByteArray → Int → Int → Int → List ByteArray → Option (Int)
 | 0, _, _, _, _, _, _, _, _, _, _ => none
 | k + 1, x7, x66, x307000, x307001, x307002, x307003, x308000, x308001, x308002, x308003 => if x66 = true then (if 0 ≤ x7 then (if x7 < (x307003.length : Int) then (if x7 < (x308003.length : Int) then ((spec_l02Part.f k (rdOf ByteArray.empty x307003 x7) (rdOf ByteArray.empty x308003 x7)).bind fun t319 => (if t319 = 0 then (spec_CompareVersion.l1 k (wrap64 (x7 + 1)) x307000 x307001 x307002 x307003 x308000 x308001 x308002 x308003) else (some t319))) else (none)) else (none)) else (none)) else ((spec_l02Less.f (x307003.length : Int) (x308003.length : Int)).bind fun t320 => (some t320))
end
def spec_CompareVersion.f (k : Nat) (a0_0 : Int) (a0_1 : Int) (a0_2 : Int) (l0_3 : List ByteArray) (a1_0 : Int) (a1_1 : Int) (a1_2 : Int) (l1_3 : List ByteArray) : Option (Int) := (spec_l02Less.f a0_0 a1_0).bind fun t308 => ((spec_l02Less.f a0_1 a1_1).bind fun t309 => ((spec_l02Less.f a0_2 a1_2).bind fun t310 => (spec_CompareVersion.l0 k (([t308, t309, t310] : List Int)) 0 a0_0 a0_1 a0_2 l0_3 a1_0 a1_1 a1_2 l1_3)))
theorem spec_CompareVersion.mono_l : ∀ k, (∀ y0 y1 y2 y3 y4 y5 y6 y7 y8 y9, LeO (spec_CompareVersion.l0 k y0 y1 y2 y3 y4 y5 y6 y7 y8 y9) (spec_CompareVersion.l0 (k + 1) y0 y1 y2 y3 y4 y5 y6 y7 y8 y9)) ∧ (∀ y0 y1 y2 y3 y4 y5 y6 y7 y8, LeO (spec_CompareVersion.j1 k y0 y1 y2 y3 y4 y5 y6 y7 y8) (spec_CompareVersion.j1 (k + 1) y0 y1 y2 y3 y4 y5 y6 y7 y8)) ∧ (∀ y0 y1 y2 y3 y4 y5 y6 y7 y8, LeO (spec_CompareVersion.l1 k y0 y1 y2 y3 y4 y5 y6 y7 y8) (spec_CompareVersion.l1 (k + 1) y0 y1 y2 y3 y4 y5 y6 y7 y8)) ∧ (∀ y0 y1 y2 y3 y4 y5 y6 y7 y8 y9, LeO (spec_CompareVersion.j3 k y0 y1 y2 y3 y4 y5 y6 y7 y8 y9) (spec_CompareVersion.j3 (k + 1) y0 y1 y2 y3 y4 y5 y6 y7 y8 y9))
 | 0 => ⟨fun _ _ _ _ _ _ _ _ _ _ r h => by simp [spec_CompareVersion.l0] at h, fun _ _ _ _ _ _ _ _ _ r h => by simp [spec_CompareVersion.j1] at h, fun _ _ _ _ _ _ _ _ _ r h => by simp [spec_CompareVersion.l1] at h, fun _ _ _ _ _ _ _ _ _ _ r h => by simp [spec_CompareVersion.j3] at h⟩
 | k + 1 => by
  obtain ⟨ih0, ih1, ih2, ih3⟩ := spec_CompareVersion.mono_l k
  refine ⟨?_, ?_, ?_, ?_⟩
  ·intro y0 y1 y2 y3 y4 y5 y6 y7 y8 y9
   unfold spec_CompareVersion.l0
   repeat' first
   | (with_reducible exact ih0 _ _ _ _ _ _ _ _ _ _) | (with_reducible exact ih1 _ _ _ _ _ _ _ _ _) | (with_reducible exact ih2 _ _ _ _ _ _ _ _ _) | (with_reducible exact ih3 _ _ _ _ _ _ _ _ _ _) | (with_reducible exact spec_l02Part.mono _ _ _) | (with_reducible exact LeO.refl _) | (with_reducible exact LeO.none _) | (with_reducible refine LeO.ite ?_ ?_) | (with_reducible refine LeO.bind ?_ (fun _ => ?_)) | exact ih0 _ _ _ _ _ _ _ _ _ _ | exact ih1 _ _ _ _ _ _ _ _ _ | exact ih2 _ _ _ _ _ _ _ _ _ | exact ih3 _ _ _ _ _ _ _ _ _ _ | exact spec_l02Part.mono _ _ _ | exact LeO.none _ | refine LeO.ite ?_ ?_ | refine LeO.bind ?_ (fun _ => ?_)
  ·intro y0 y1 y2 y3 y4 y5 y6 y7 y8
   unfold spec_CompareVersion.j1
   repeat' first
   | (with_reducible exact ih0 _ _ _ _ _ _ _ _ _ _) | (with_reducible exact ih1 _ _ _ _ _ _ _ _ _) | (with_reducible exact ih2 _ _ _ _ _ _ _ _ _) | (with_reducible exact ih3 _ _ _ _ _ _ _ _ _ _) | (with_reducible exact spec_l02Part.mono _ _ _) | (with_reducible exact LeO.refl _) | (with_reducible exact LeO.none _) | (with_reducible refine LeO.ite ?_ ?_) | (with_reducible refine LeO.bind ?_ (fun _ => ?_)) | exact ih0 _ _ _ _ _ _ _ _ _ _ | exact ih1 _ _ _ _ _ _ _ _ _ | exact ih2 _ _ _ _ _ _ _ _ _ | exact ih3 _ _ _ _ _ _ _ _ _ _ | exact spec_l02Part.mono _ _ _ | exact LeO.none _ | refine LeO.ite ?_ ?_ | refine LeO.bind ?_ (fun _ => ?_)
  ·intro y0 y1 y2 y3 y4 y5 y6 y7 y8
   unfold spec_CompareVersion.l1
   repeat' first
   | (with_reducible exact ih0 _ _ _ _ _ _ _ _ _ _) | (with_reducible exact ih1 _ _ _ _ _ _ _ _ _) | (with_reducible exact ih2 _ _ _ _ _ _ _ _ _) | (with_reducible exact ih3 _ _ _ _ _ _ _ _ _ _) | (with_reducible exact spec_l02Part.mono _ _ _) | (with_reducible exact LeO.refl _) | (with_reducible exact LeO.none _) | (with_reducible refine LeO.ite ?_ ?_) | (with_reducible refine LeO.bind ?_ (fun _ => ?_)) | exact ih0 _ _ _ _ _ _ _ _ _ _ | exact ih1 _ _ _ _ _ _ _ _ _ | exact ih2 _ _ _ _ _ _ _ _ _ | exact ih3 _ _ _ _ _ _ _ _ _ _ | exact spec_l02Part.mono _ _ _ | exact LeO.none _ | refine LeO.ite ?_ ?_ | refine LeO.bind ?_ (fun _ => ?_)
  ·intro y0 y1 y2 y3 y4 y5 y6 y7 y8 y9
   unfold spec_CompareVersion.j3
   repeat' first
   | (with_reducible exact ih0 _ _ _ _ _ _ _ _ _ _) | (with_reducible exact ih1 _ _ _ _ _ _ _ _ _) | (with_reducible exact ih2 _ _ _ _ _ _ _ _ _) | (with_reducible exact ih3 _ _ _ _ _ _ _ _ _ _) | (with_reducible exact spec_l02Part.mono _ _ _) | (with_reducible exact LeO.refl _) | (with_reducible exact LeO.none _) | (with_reducible refine LeO.ite ?_ ?_) | (with_reducible refine LeO.bind ?_ (fun _ => ?_)) | exact ih0 _ _ _ _ _ _ _ _ _ _ | exact ih1 _ _ _ _ _ _ _ _ _ | exact ih2 _ _ _ _ _ _ _ _ _ | exact ih3 _ _ _ _ _ _ _ _ _ _ | exact spec_l02Part.mono _ _ _ | exact LeO.none _ | refine LeO.ite ?_ ?_ | refine LeO.bind ?_ (fun _ => ?_)
theorem spec_CompareVersion.mono : ∀ a0 a1 a2 a3 a4 a5 a6 a7 k, LeO (spec_CompareVersion.f k a0 a1 a2 a3 a4 a5 a6 a7) (spec_CompareVersion.f (k + 1) a0 a1 a2 a3 a4 a5 a6 a7) := by
 intro a0 a1 a2 a3 a4 a5 a6 a7 k
 obtain ⟨ih0, ih1, ih2, ih3⟩ := spec_CompareVersion.mono_l k
 unfold spec_CompareVersion.f
 repeat' first
   | (with_reducible exact ih0 _ _ _ _ _ _ _ _ _ _) | (with_reducible exact ih1 _ _ _ _ _ _ _ _ _) | (with_reducible exact ih2 _ _ _ _ _ _ _ _ _) | (with_reducible exact ih3 _ _ _ _ _ _ _ _ _ _) | (with_reducible exact spec_l02Part.mono _ _ _) | (with_reducible exact LeO.refl _) | (with_reducible exact LeO.none _) | (with_reducible refine LeO.ite ?_ ?_) | (with_reducible refine LeO.bind ?_ (fun _ => ?_)) | exact ih0 _ _ _ _ _ _ _ _ _ _ | exact ih1 _ _ _ _ _ _ _ _ _ | exact ih2 _ _ _ _ _ _ _ _ _ | exact ih3 _ _ _ _ _ _ _ _ _ _ | exact spec_l02Part.mono _ _ _ | exact LeO.none _ | refine LeO.ite ?_ ?_ | refine LeO.bind ?_ (fun _ => ?_)
def spec_Next.j0 : Nat → Int → Bool → Int → Int → Int → List ByteArray → Int → Int → Int → List ByteArray → Int → Int → Int → Option (Int × Int × Int × List ByteArray)
 | 0, _, _, _, _, _, _, _, _, _, _, _, _, _ => none
 | k + 1, x1, x30, x322000, x322001, x322002, x322003, x324000, x324001, x324002, x324003, x331000, x331001, x331002 => if x30 = true then (some (x324000, x324001, x324002, x324003)) else (if x1 = 0 then ((spec_VersionOk.f k (wrap64 (x322000 + 1)) x331001 x331002 ([] : List ByteArray)).bind fun t333 => (if t333 = true then (some (wrap64 (x322000 + 1), x331001, x331002, ([] : List ByteArray))) else (some (x324000, x324001, x324002, x324003)))) else (if x1 = 1 then ((spec_VersionOk.f k x331000 (wrap64 (x322001 + 1)) x331002 ([] : List ByteArray)).bind fun t334 => (if t334 = true then (some (x331000, wrap64 (x322001 + 1), x331002, ([] : List ByteArray))) else (some (x324000, x324001, x324002, x324003)))) else (if (x322003.length : Int) = 0 then ((spec_VersionOk.f k x331000 x322001 (wrap64 (x322002 + 1)) ([] : List ByteArray)).bind fun t335 => (if t335 = true then (some (x331000, x322001, wrap64 (x322002 + 1), ([] : List ByteArray))) else (some (x324000, x324001, x324002, x324003)))) else ((spec_VersionOk.f k x331000 x322001 x322002 ([] : List ByteArray)).bind fun t336 => (if t336 = true then (some (x331000, x322001, x322002, ([] : List ByteArray))) else (some (x324000, x324001, x324002, x324003)))))))
def spec_Next.f (k : Nat) (a0_0 : Int) (a0_1 : Int) (a0_2 : Int) (l0_3 : List ByteArray) (a1 : Int) : Option (Int × Int × Int × List ByteArray) := (some (([] : List ByteArray) : List ByteArray)).bind fun y324 => (if y324.length + l0_3.length < 8796093022208 then ((some (y324 ++ l0_3 : List ByteArray)).bind fun y327 => ((spec_VersionOk.f k a0_0 a0_1 a0_2 l0_3).bind fun t331 => (if t331 = true then ((spec_l01In.f a1 0 2).bind fun t332 => (spec_Next.j0 k a1 (!t332) a0_0 a0_1 a0_2 l0_3 a0_0 a0_1 a0_2 y327 a0_0 0 0)) else (spec_Next.j0 k a1 true a0_0 a0_1 a0_2 l0_3 a0_0 a0_1 a0_2 y327 a0_0 0 0)))) else (none))
theorem spec_Next.mono_l : ∀ k, (∀ y0 y1 y2 y3 y4 y5 y6 y7 y8 y9 y10 y11 y12, LeO (spec_Next.j0 k y0 y1 y2 y3 y4 y5 y6 y7 y8 y9 y10 y11 y12) (spec_Next.j0 (k + 1) y0 y1 y2 y3 y4 y5 y6 y7 y8 y9 y10 y11 y12))
 | 0 => fun _ _ _ _ _ _ _ _ _ _ _ _ _ r h => by simp [spec_Next.j0] at h
 | k + 1 => by
  have ih0 := spec_Next.mono_l k
  ·intro y0 y1 y2 y3 y4 y5 y6 y7 y8 y9 y10 y11 y12
   unfold spec_Next.j0
   repeat' first
   | (with_reducible exact ih0 _ _ _ _ _ _ _ _ _ _ _ _ _) | (with_reducible exact spec_VersionOk.mono _ _ _ _ _) | (with_reducible exact LeO.refl _) | (with_reducible exact LeO.none _) | (with_reducible refine LeO.ite ?_ ?_) | (with_reducible refine LeO.bind ?_ (fun _ => ?_)) | exact ih0 _ _ _ _ _ _ _ _ _ _ _ _ _ | exact spec_VersionOk.mono _ _ _ _ _ | exact LeO.none _ | refine LeO.ite ?_ ?_ | refine LeO.bind ?_ (fun _ => ?_)
theorem spec_Next.mono : ∀ a0 a1 a2 a3 a4 k, LeO (spec_Next.f k a0 a1 a2 a3 a4) (spec_Next.f (k + 1) a0 a1 a2 a3 a4) := by
 intro a0 a1 a2 a3 a4 k
 have ih0 := spec_Next.mono_l k
 unfold spec_Next.f
 repeat' first
   | (with_reducible exact ih0 _ _ _ _ _ _ _ _ _ _ _ _ _) | (with_reducible exact spec_VersionOk.mono _ _ _ _ _) | (with_reducible exact LeO.refl _) | (with_reducible exact LeO.none _) | (with_reducible refine LeO.ite ?_ ?_) | (with_reducible refine LeO.bind ?_ (fun _ => ?_)) | exact ih0 _ _ _ _ _ _ _ _ _ _ _ _ _ | exact spec_VersionOk.mono _ _ _ _ _ | exact LeO.none _ | refine LeO.ite ?_ ?_ | refine LeO.bind ?_ (fun _ => ?_)
def spec_l03Below.f (k : Nat) (a0_0 : Int) (a0_1 : Int) (a0_2 : Int) (l0_3 : List ByteArray) (a1 : Int) : Option (ByteArray × Bool) := (some (([] : List ByteArray) : List ByteArray)).bind fun y338 => ((spec_Next.f k a0_0 a0_1 a0_2 y338 a1).bind fun bt341 => ((spec_CompareVersion.f k bt341.1 bt341.2.1 bt341.2.2.1 bt341.2.2.2 a0_0 a0_1 a0_2 y338).bind fun t348 => (if t348 = 0 then (some ((⟨#[]⟩ : ByteArray), false)) else ((spec_VersionText.f k bt341.1 bt341.2.1 bt341.2.2.1 (([(⟨#[48]⟩ : ByteArray)] : List ByteArray))).bind fun t352 => (some (t352, true))))))
theorem spec_l03Below.mono : ∀ a0 a1 a2 a3 a4 k, LeO (spec_l03Below.f k a0 a1 a2 a3 a4) (spec_l03Below.f (k + 1) a0 a1 a2 a3 a4) := by
 intro a0 a1 a2 a3 a4 k
 unfold spec_l03Below.f
 repeat' first
   | (with_reducible exact spec_CompareVersion.mono _ _ _ _ _ _ _ _ _) | (with_reducible exact spec_Next.mono _ _ _ _ _ _) | (with_reducible exact spec_VersionText.mono _ _ _ _ _) | (with_reducible exact LeO.refl _) | (with_reducible exact LeO.none _) | (with_reducible refine LeO.ite ?_ ?_) | (with_reducible refine LeO.bind ?_ (fun _ => ?_)) | exact spec_CompareVersion.mono _ _ _ _ _ _ _ _ _ | exact spec_Next.mono _ _ _ _ _ _ | exact spec_VersionText.mono _ _ _ _ _ | exact LeO.none _ | refine LeO.ite ?_ ?_ | refine LeO.bind ?_ (fun _ => ?_)
def spec_l03From.f (k : Nat) (a0 : ByteArray) (a1_0 : Int) (a1_1 : Int) (a1_2 : Int) (l1_3 : List ByteArray) (a2 : Int) : Option (ByteArray × ByteArray × Bool) := (spec_l03Below.f k a1_0 a1_1 a1_2 l1_3 a2).bind fun bt355 => (if bt355.2 = true then (some (a0, bt355.1, true)) else (some ((⟨#[]⟩ : ByteArray), (⟨#[]⟩ : ByteArray), false)))
theorem spec_l03From.mono : ∀ a0 a1 a2 a3 a4 a5 k, LeO (spec_l03From.f k a0 a1 a2 a3 a4 a5) (spec_l03From.f (k + 1) a0 a1 a2 a3 a4 a5) := by
 intro a0 a1 a2 a3 a4 a5 k
 unfold spec_l03From.f
 repeat' first
   | (with_reducible exact spec_l03Below.mono _ _ _ _ _ _) | (with_reducible exact LeO.refl _) | (with_reducible exact LeO.none _) | (with_reducible refine LeO.ite ?_ ?_) | (with_reducible refine LeO.bind ?_ (fun _ => ?_)) | exact spec_l03Below.mono _ _ _ _ _ _ | exact LeO.none _ | refine LeO.ite ?_ ?_ | refine LeO.bind ?_ (fun _ => ?_)
def spec_l03Caret.f (a0_0 : Int) (a0_1 : Int) (a0_2 : Int) (l0_3 : List ByteArray) : Option (Int) := if a0_0 > 0 then (some 0) else (if a0_1 > 0 then (some 1) else (some 2))
def spec_l03Is.f (k : Nat) (a0 : ByteArray) : Option (Bool) := (spec_ReadVersion.f k a0).bind fun bt358 => (if bt358.2.2.2.2 = true then (some true) else (some (a0.toList == ([] : List UInt8))))
theorem spec_l03Is.mono : ∀ a0 k, LeO (spec_l03Is.f k a0) (spec_l03Is.f (k + 1) a0) := by
 intro a0 k
 unfold spec_l03Is.f
 repeat' first
   | (with_reducible exact spec_ReadVersion.mono _ _) | (with_reducible exact LeO.refl _) | (with_reducible exact LeO.none _) | (with_reducible refine LeO.ite ?_ ?_) | (with_reducible refine LeO.bind ?_ (fun _ => ?_)) | exact spec_ReadVersion.mono _ _ | exact LeO.none _ | refine LeO.ite ?_ ?_ | refine LeO.bind ?_ (fun _ => ?_)
def spec_RangeOk.l0 : Nat → List (S45) → Int → Option (Bool)
 | 0, _, _ => none
 | k + 1, x0, x3 => if x3 < (x0.length : Int) then (if 0 ≤ x3 then ((spec_l03Is.f k ((rd_T45 x0 x3).f0)).bind fun t368 => (if t368 = true then ((spec_l03Is.f k ((rd_T45 x0 x3).f1)).bind fun t370 => (if t370 = true then (spec_RangeOk.l0 k x0 (wrap64 (x3 + 1))) else (some false))) else (some false))) else (none)) else ((spec_l01In.f (x0.length : Int) 1 8).bind fun t366 => (some t366))
def spec_RangeOk.f (k : Nat) (l0 : List (S45)) : Option (Bool) := spec_RangeOk.l0 k l0 0
theorem spec_RangeOk.mono_l : ∀ k, (∀ y0 y1, LeO (spec_RangeOk.l0 k y0 y1) (spec_RangeOk.l0 (k + 1) y0 y1))
 | 0 => fun _ _ r h => by simp [spec_RangeOk.l0] at h
 | k + 1 => by
  have ih0 := spec_RangeOk.mono_l k
  ·intro y0 y1
   unfold spec_RangeOk.l0
   repeat' first
   | (with_reducible exact ih0 _ _) | (with_reducible exact spec_l03Is.mono _ _) | (with_reducible exact LeO.refl _) | (with_reducible exact LeO.none _) | (with_reducible refine LeO.ite ?_ ?_) | (with_reducible refine LeO.bind ?_ (fun _ => ?_)) | exact ih0 _ _ | exact spec_l03Is.mono _ _ | exact LeO.none _ | refine LeO.ite ?_ ?_ | refine LeO.bind ?_ (fun _ => ?_)
theorem spec_RangeOk.mono : ∀ a0 k, LeO (spec_RangeOk.f k a0) (spec_RangeOk.f (k + 1) a0) := by
 intro a0 k
 have ih0 := spec_RangeOk.mono_l k
 unfold spec_RangeOk.f
 repeat' first
   | (with_reducible exact ih0 _ _) | (with_reducible exact spec_l03Is.mono _ _) | (with_reducible exact LeO.refl _) | (with_reducible exact LeO.none _) | (with_reducible refine LeO.ite ?_ ?_) | (with_reducible refine LeO.bind ?_ (fun _ => ?_)) | exact ih0 _ _ | exact spec_l03Is.mono _ _ | exact LeO.none _ | refine LeO.ite ?_ ?_ | refine LeO.bind ?_ (fun _ => ?_)
def spec_Words.f (k : Nat) (a0 : ByteArray) : Option (List ByteArray) := (spec_l01Cut.f k a0 32).bind fun t371 => (some t371)
theorem spec_Words.mono : ∀ a0 k, LeO (spec_Words.f k a0) (spec_Words.f (k + 1) a0) := by
 intro a0 k
 unfold spec_Words.f
 repeat' first
   | (with_reducible exact spec_l01Cut.mono _ _ _) | (with_reducible exact LeO.refl _) | (with_reducible exact LeO.none _) | (with_reducible refine LeO.ite ?_ ?_) | (with_reducible refine LeO.bind ?_ (fun _ => ?_)) | exact spec_l01Cut.mono _ _ _ | exact LeO.none _ | refine LeO.ite ?_ ?_ | refine LeO.bind ?_ (fun _ => ?_)
mutual
def spec_l03Signs.l0 : Nat → List ByteArray → Int → ByteArray → ByteArray → Option (ByteArray × ByteArray × Bool)
 | 0, _, _, _, _ => none
 | k + 1, x4, x6, x379000, x379001 => if x6 < (x4.length : Int) then (if x6 = 0 then (if 0 ≤ x6 then (if ((rdOf ByteArray.empty x4 x6).size : Int) > 2 then (if 0 ≤ 2 then (if 2 ≤ ((rdOf ByteArray.empty x4 x6).size : Int) then (spec_l03Signs.j1 k x4 x6 (((rdOf ByteArray.empty x4 x6).extract 0 2).toList == ([62, 61] : List UInt8)) x379000 x379001) else (none)) else (none)) else (spec_l03Signs.j1 k x4 x6 false x379000 x379001)) else (none)) else (spec_l03Signs.j1 k x4 x6 false x379000 x379001)) else (if (x4.length : Int) > 2 then (some ((⟨#[]⟩ : ByteArray), (⟨#[]⟩ : ByteArray), false)) else ((spec_RangeOk.f k (([(⟨x379000, x379001⟩ : S45)] : List (S45)))).bind fun t382 => (if t382 = true then (some (x379000, x379001, true)) else (some ((⟨#[]⟩ : ByteArray), (⟨#[]⟩ : ByteArray), false)))))
def spec_l03Signs.j1 : Nat → List ByteArray → Int → Bool → ByteArray → ByteArray → Option (ByteArray × ByteArray × Bool)
 | 0, _, _, _, _, _ => none
 | k + 1, x4, x6, x17, x379000, x379001 => if x17 = true then (if 0 ≤ x6 then (if x6 < (x4.length : Int) then (if 2 ≤ ((rdOf ByteArray.empty x4 x6).size : Int) then (spec_l03Signs.l0 k x4 (wrap64 (x6 + 1)) ((rdOf ByteArray.empty x4 x6).extract 2 (rdOf ByteArray.empty x4 x6).size) x379001) else (none)) else (none)) else (none)) else (if x6 = (wrap64 ((x4.length : Int) - 1)) then (if 0 ≤ x6 then (if x6 < (x4.length : Int) then (if ((rdOf ByteArray.empty x4 x6).size : Int) > 1 then (if 0 < ((rdOf ByteArray.empty x4 x6).size : Int) then (if (bt (rdOf ByteArray.empty x4 x6) 0) = 60 then (if 1 ≤ ((rdOf ByteArray.empty x4 x6).size : Int) then (spec_l03Signs.l0 k x4 (wrap64 (x6 + 1)) x379000 ((rdOf ByteArray.empty x4 x6).extract 1 (rdOf ByteArray.empty x4 x6).size)) else (none)) else (some ((⟨#[]⟩ : ByteArray), (⟨#[]⟩ : ByteArray), false))) else (none)) else (some ((⟨#[]⟩ : ByteArray), (⟨#[]⟩ : ByteArray), false))) else (none)) else (none)) else (some ((⟨#[]⟩ : ByteArray), (⟨#[]⟩ : ByteArray), false)))
end
def spec_l03Signs.f (k : Nat) (a0 : ByteArray) : Option (ByteArray × ByteArray × Bool) := (spec_Words.f k a0).bind fun t375 => (spec_l03Signs.l0 k t375 0 (⟨#[]⟩ : ByteArray) (⟨#[]⟩ : ByteArray))
theorem spec_l03Signs.mono_l : ∀ k, (∀ y0 y1 y2 y3, LeO (spec_l03Signs.l0 k y0 y1 y2 y3) (spec_l03Signs.l0 (k + 1) y0 y1 y2 y3)) ∧ (∀ y0 y1 y2 y3 y4, LeO (spec_l03Signs.j1 k y0 y1 y2 y3 y4) (spec_l03Signs.j1 (k + 1) y0 y1 y2 y3 y4))
 | 0 => ⟨fun _ _ _ _ r h => by simp [spec_l03Signs.l0] at h, fun _ _ _ _ _ r h => by simp [spec_l03Signs.j1] at h⟩
 | k + 1 => by
  obtain ⟨ih0, ih1⟩ := spec_l03Signs.mono_l k
  refine ⟨?_, ?_⟩
  ·intro y0 y1 y2 y3
   unfold spec_l03Signs.l0
   repeat' first
   | (with_reducible exact ih0 _ _ _ _) | (with_reducible exact ih1 _ _ _ _ _) | (with_reducible exact spec_RangeOk.mono _ _) | (with_reducible exact spec_Words.mono _ _) | (with_reducible exact LeO.refl _) | (with_reducible exact LeO.none _) | (with_reducible refine LeO.ite ?_ ?_) | (with_reducible refine LeO.bind ?_ (fun _ => ?_)) | exact ih0 _ _ _ _ | exact ih1 _ _ _ _ _ | exact spec_RangeOk.mono _ _ | exact spec_Words.mono _ _ | exact LeO.none _ | refine LeO.ite ?_ ?_ | refine LeO.bind ?_ (fun _ => ?_)
  ·intro y0 y1 y2 y3 y4
   unfold spec_l03Signs.j1
   repeat' first
   | (with_reducible exact ih0 _ _ _ _) | (with_reducible exact ih1 _ _ _ _ _) | (with_reducible exact spec_RangeOk.mono _ _) | (with_reducible exact spec_Words.mono _ _) | (with_reducible exact LeO.refl _) | (with_reducible exact LeO.none _) | (with_reducible refine LeO.ite ?_ ?_) | (with_reducible refine LeO.bind ?_ (fun _ => ?_)) | exact ih0 _ _ _ _ | exact ih1 _ _ _ _ _ | exact spec_RangeOk.mono _ _ | exact spec_Words.mono _ _ | exact LeO.none _ | refine LeO.ite ?_ ?_ | refine LeO.bind ?_ (fun _ => ?_)
theorem spec_l03Signs.mono : ∀ a0 k, LeO (spec_l03Signs.f k a0) (spec_l03Signs.f (k + 1) a0) := by
 intro a0 k
 obtain ⟨ih0, ih1⟩ := spec_l03Signs.mono_l k
 unfold spec_l03Signs.f
 repeat' first
   | (with_reducible exact ih0 _ _ _ _) | (with_reducible exact ih1 _ _ _ _ _) | (with_reducible exact spec_RangeOk.mono _ _) | (with_reducible exact spec_Words.mono _ _) | (with_reducible exact LeO.refl _) | (with_reducible exact LeO.none _) | (with_reducible refine LeO.ite ?_ ?_) | (with_reducible refine LeO.bind ?_ (fun _ => ?_)) | exact ih0 _ _ _ _ | exact ih1 _ _ _ _ _ | exact spec_RangeOk.mono _ _ | exact spec_Words.mono _ _ | exact LeO.none _ | refine LeO.ite ?_ ?_ | refine LeO.bind ?_ (fun _ => ?_)
def spec_l03Alone.f (k : Nat) (a0 : ByteArray) : Option (ByteArray × ByteArray × Bool) := (spec_ReadVersion.f k a0).bind fun bt390 => (if bt390.2.2.2.2 = true then (if (bt390.2.2.2.1.length : Int) > 0 then (if a0.size + 2 ≤ 9223372036854775807 then ((spec_ReadVersion.f k (a0 ++ (⟨#[46, 48]⟩ : ByteArray))).bind fun bt398 => (if bt398.2.2.2.2 = true then (some (a0, a0 ++ (⟨#[46, 48]⟩ : ByteArray), true)) else (some ((⟨#[]⟩ : ByteArray), (⟨#[]⟩ : ByteArray), false)))) else (none)) else ((spec_l03Below.f k bt390.1 bt390.2.1 bt390.2.2.1 bt390.2.2.2.1 2).bind fun bt405 => (if bt405.2 = true then (some (a0, bt405.1, true)) else (some ((⟨#[]⟩ : ByteArray), (⟨#[]⟩ : ByteArray), false))))) else (some ((⟨#[]⟩ : ByteArray), (⟨#[]⟩ : ByteArray), false)))
theorem spec_l03Alone.mono : ∀ a0 k, LeO (spec_l03Alone.f k a0) (spec_l03Alone.f (k + 1) a0) := by
 intro a0 k
 unfold spec_l03Alone.f
 repeat' first
   | (with_reducible exact spec_ReadVersion.mono _ _) | (with_reducible exact spec_l03Below.mono _ _ _ _ _ _) | (with_reducible exact LeO.refl _) | (with_reducible exact LeO.none _) | (with_reducible refine LeO.ite ?_ ?_) | (with_reducible refine LeO.bind ?_ (fun _ => ?_)) | exact spec_ReadVersion.mono _ _ | exact spec_l03Below.mono _ _ _ _ _ _ | exact LeO.none _ | refine LeO.ite ?_ ?_ | refine LeO.bind ?_ (fun _ => ?_)
mutual
def spec_l03Short.j0 : Nat → List ByteArray → ByteArray → Option (ByteArray × ByteArray × Bool)
 | 0, _, _ => none
 | k + 1, x4, x5 => (spec_ReadVersion.f k x5).bind fun bt411 => (if bt411.2.2.2.2 = true then ((spec_l01In.f (x4.length : Int) 1 2).bind fun t419 => (if t419 = true then (spec_l03Short.j1 k x4 x5 (decide ((bt411.2.2.2.1.length : Int) > 0)) bt411.1 bt411.2.1 bt411.2.2.1 bt411.2.2.2.1) else (spec_l03Short.j1 k x4 x5 true bt411.1 bt411.2.1 bt411.2.2.1 bt411.2.2.2.1))) else (spec_l03Short.j1 k x4 x5 true bt411.1 bt411.2.1 bt411.2.2.1 bt411.2.2.2.1))
def spec_l03Short.j1 : Nat → List ByteArray → ByteArray → Bool → Int → Int → Int → List ByteArray → Option (ByteArray × ByteArray × Bool)
 | 0, _, _, _, _, _, _, _ => none
 | k + 1, x4, x5, x37, x419000, x419001, x419002, x419003 => if x37 = true then (some ((⟨#[]⟩ : ByteArray), (⟨#[]⟩ : ByteArray), false)) else ((spec_l03Below.f k x419000 x419001 x419002 x419003 (wrap64 ((x4.length : Int) - 1))).bind fun bt420 => (if bt420.2 = true then (some (x5, bt420.1, true)) else (some ((⟨#[]⟩ : ByteArray), (⟨#[]⟩ : ByteArray), false))))
end
def spec_l03Short.f (k : Nat) (a0 : ByteArray) : Option (ByteArray × ByteArray × Bool) := (spec_l01Cut.f k a0 46).bind fun t408 => (if a0.size + 2 ≤ 9223372036854775807 then (if (t408.length : Int) = 1 then (if a0.size + 4 ≤ 9223372036854775807 then (spec_l03Short.j0 k t408 (a0 ++ (⟨#[46, 48, 46, 48]⟩ : ByteArray))) else (none)) else (spec_l03Short.j0 k t408 (a0 ++ (⟨#[46, 48]⟩ : ByteArray)))) else (none))
theorem spec_l03Short.mono_l : ∀ k, (∀ y0 y1, LeO (spec_l03Short.j0 k y0 y1) (spec_l03Short.j0 (k + 1) y0 y1)) ∧ (∀ y0 y1 y2 y3 y4 y5 y6, LeO (spec_l03Short.j1 k y0 y1 y2 y3 y4 y5 y6) (spec_l03Short.j1 (k + 1) y0 y1 y2 y3 y4 y5 y6))
 | 0 => ⟨fun _ _ r h => by simp [spec_l03Short.j0] at h, fun _ _ _ _ _ _ _ r h => by simp [spec_l03Short.j1] at h⟩
 | k + 1 => by
  obtain ⟨ih0, ih1⟩ := spec_l03Short.mono_l k
  refine ⟨?_, ?_⟩
  ·intro y0 y1
   unfold spec_l03Short.j0
   repeat' first
   | (with_reducible exact ih0 _ _) | (with_reducible exact ih1 _ _ _ _ _ _ _) | (with_reducible exact spec_ReadVersion.mono _ _) | (with_reducible exact spec_l01Cut.mono _ _ _) | (with_reducible exact spec_l03Below.mono _ _ _ _ _ _) | (with_reducible exact LeO.refl _) | (with_reducible exact LeO.none _) | (with_reducible refine LeO.ite ?_ ?_) | (with_reducible refine LeO.bind ?_ (fun _ => ?_)) | exact ih0 _ _ | exact ih1 _ _ _ _ _ _ _ | exact spec_ReadVersion.mono _ _ | exact spec_l01Cut.mono _ _ _ | exact spec_l03Below.mono _ _ _ _ _ _ | exact LeO.none _ | refine LeO.ite ?_ ?_ | refine LeO.bind ?_ (fun _ => ?_)
  ·intro y0 y1 y2 y3 y4 y5 y6
   unfold spec_l03Short.j1
   repeat' first
   | (with_reducible exact ih0 _ _) | (with_reducible exact ih1 _ _ _ _ _ _ _) | (with_reducible exact spec_ReadVersion.mono _ _) | (with_reducible exact spec_l01Cut.mono _ _ _) | (with_reducible exact spec_l03Below.mono _ _ _ _ _ _) | (with_reducible exact LeO.refl _) | (with_reducible exact LeO.none _) | (with_reducible refine LeO.ite ?_ ?_) | (with_reducible refine LeO.bind ?_ (fun _ => ?_)) | exact ih0 _ _ | exact ih1 _ _ _ _ _ _ _ | exact spec_ReadVersion.mono _ _ | exact spec_l01Cut.mono _ _ _ | exact spec_l03Below.mono _ _ _ _ _ _ | exact LeO.none _ | refine LeO.ite ?_ ?_ | refine LeO.bind ?_ (fun _ => ?_)
theorem spec_l03Short.mono : ∀ a0 k, LeO (spec_l03Short.f k a0) (spec_l03Short.f (k + 1) a0) := by
 intro a0 k
 obtain ⟨ih0, ih1⟩ := spec_l03Short.mono_l k
 unfold spec_l03Short.f
 repeat' first
   | (with_reducible exact ih0 _ _) | (with_reducible exact ih1 _ _ _ _ _ _ _) | (with_reducible exact spec_ReadVersion.mono _ _) | (with_reducible exact spec_l01Cut.mono _ _ _) | (with_reducible exact spec_l03Below.mono _ _ _ _ _ _) | (with_reducible exact LeO.refl _) | (with_reducible exact LeO.none _) | (with_reducible refine LeO.ite ?_ ?_) | (with_reducible refine LeO.bind ?_ (fun _ => ?_)) | exact ih0 _ _ | exact ih1 _ _ _ _ _ _ _ | exact spec_ReadVersion.mono _ _ | exact spec_l01Cut.mono _ _ _ | exact spec_l03Below.mono _ _ _ _ _ _ | exact LeO.none _ | refine LeO.ite ?_ ?_ | refine LeO.bind ?_ (fun _ => ?_)
mutual
def spec_l03Part.j0 : Nat → ByteArray → Bool → Option (ByteArray × ByteArray × Bool)
 | 0, _, _ => none
 | k + 1, x0, x23 => if x23 = true then (if 1 ≤ (x0.size : Int) then ((spec_ReadVersion.f k (x0.extract 1 x0.size)).bind fun bt423 => (if bt423.2.2.2.2 = true then (if 0 < (x0.size : Int) then (if (bt x0 0) = 126 then ((spec_l03From.f k (x0.extract 1 x0.size) bt423.1 bt423.2.1 bt423.2.2.1 bt423.2.2.2.1 1).bind fun bt431 => (some (bt431.1, bt431.2.1, bt431.2.2))) else ((spec_l03Caret.f bt423.1 bt423.2.1 bt423.2.2.1 bt423.2.2.2.1).bind fun t434 => ((spec_l03From.f k (x0.extract 1 x0.size) bt423.1 bt423.2.1 bt423.2.2.1 bt423.2.2.2.1 t434).bind fun bt435 => (some (bt435.1, bt435.2.1, bt435.2.2))))) else (none)) else (some ((⟨#[]⟩ : ByteArray), (⟨#[]⟩ : ByteArray), false)))) else (none)) else (if (x0.size : Int) > 0 then (if 0 < (x0.size : Int) then (if (bt x0 0) = 62 then (spec_l03Part.j1 k x0 true) else (spec_l03Part.j1 k x0 ((bt x0 0) == 60))) else (none)) else (spec_l03Part.j1 k x0 false))
def spec_l03Part.j1 : Nat → ByteArray → Bool → Option (ByteArray × ByteArray × Bool)
 | 0, _, _ => none
 | k + 1, x0, x62 => if x62 = true then ((spec_l03Signs.f k x0).bind fun bt438 => (some (bt438.1, bt438.2.1, bt438.2.2))) else ((spec_l03Alone.f k x0).bind fun bt441 => (if bt441.2.2 = true then (some (bt441.1, bt441.2.1, true)) else ((spec_l03Short.f k x0).bind fun bt445 => (some (bt445.1, bt445.2.1, bt445.2.2)))))
end
def spec_l03Part.f (k : Nat) (a0 : ByteArray) : Option (ByteArray × ByteArray × Bool) := if a0.toList = ([42] : List UInt8) then (some ((⟨#[]⟩ : ByteArray), (⟨#[]⟩ : ByteArray), true)) else (if (a0.size : Int) > 1 then (if 0 < (a0.size : Int) then (if (bt a0 0) = 94 then (spec_l03Part.j0 k a0 true) else (spec_l03Part.j0 k a0 ((bt a0 0) == 126))) else (none)) else (spec_l03Part.j0 k a0 false))
theorem spec_l03Part.mono_l : ∀ k, (∀ y0 y1, LeO (spec_l03Part.j0 k y0 y1) (spec_l03Part.j0 (k + 1) y0 y1)) ∧ (∀ y0 y1, LeO (spec_l03Part.j1 k y0 y1) (spec_l03Part.j1 (k + 1) y0 y1))
 | 0 => ⟨fun _ _ r h => by simp [spec_l03Part.j0] at h, fun _ _ r h => by simp [spec_l03Part.j1] at h⟩
 | k + 1 => by
  obtain ⟨ih0, ih1⟩ := spec_l03Part.mono_l k
  refine ⟨?_, ?_⟩
  ·intro y0 y1
   unfold spec_l03Part.j0
   repeat' first
   | (with_reducible exact ih0 _ _) | (with_reducible exact ih1 _ _) | (with_reducible exact spec_ReadVersion.mono _ _) | (with_reducible exact spec_l03Alone.mono _ _) | (with_reducible exact spec_l03From.mono _ _ _ _ _ _ _) | (with_reducible exact spec_l03Short.mono _ _) | (with_reducible exact spec_l03Signs.mono _ _) | (with_reducible exact LeO.refl _) | (with_reducible exact LeO.none _) | (with_reducible refine LeO.ite ?_ ?_) | (with_reducible refine LeO.bind ?_ (fun _ => ?_)) | exact ih0 _ _ | exact ih1 _ _ | exact spec_ReadVersion.mono _ _ | exact spec_l03Alone.mono _ _ | exact spec_l03From.mono _ _ _ _ _ _ _ | exact spec_l03Short.mono _ _ | exact spec_l03Signs.mono _ _ | exact LeO.none _ | refine LeO.ite ?_ ?_ | refine LeO.bind ?_ (fun _ => ?_)
  ·intro y0 y1
   unfold spec_l03Part.j1
   repeat' first
   | (with_reducible exact ih0 _ _) | (with_reducible exact ih1 _ _) | (with_reducible exact spec_ReadVersion.mono _ _) | (with_reducible exact spec_l03Alone.mono _ _) | (with_reducible exact spec_l03From.mono _ _ _ _ _ _ _) | (with_reducible exact spec_l03Short.mono _ _) | (with_reducible exact spec_l03Signs.mono _ _) | (with_reducible exact LeO.refl _) | (with_reducible exact LeO.none _) | (with_reducible refine LeO.ite ?_ ?_) | (with_reducible refine LeO.bind ?_ (fun _ => ?_)) | exact ih0 _ _ | exact ih1 _ _ | exact spec_ReadVersion.mono _ _ | exact spec_l03Alone.mono _ _ | exact spec_l03From.mono _ _ _ _ _ _ _ | exact spec_l03Short.mono _ _ | exact spec_l03Signs.mono _ _ | exact LeO.none _ | refine LeO.ite ?_ ?_ | refine LeO.bind ?_ (fun _ => ?_)
theorem spec_l03Part.mono : ∀ a0 k, LeO (spec_l03Part.f k a0) (spec_l03Part.f (k + 1) a0) := by
 intro a0 k
 obtain ⟨ih0, ih1⟩ := spec_l03Part.mono_l k
 unfold spec_l03Part.f
 repeat' first
   | (with_reducible exact ih0 _ _) | (with_reducible exact ih1 _ _) | (with_reducible exact spec_ReadVersion.mono _ _) | (with_reducible exact spec_l03Alone.mono _ _) | (with_reducible exact spec_l03From.mono _ _ _ _ _ _ _) | (with_reducible exact spec_l03Short.mono _ _) | (with_reducible exact spec_l03Signs.mono _ _) | (with_reducible exact LeO.refl _) | (with_reducible exact LeO.none _) | (with_reducible refine LeO.ite ?_ ?_) | (with_reducible refine LeO.bind ?_ (fun _ => ?_)) | exact ih0 _ _ | exact ih1 _ _ | exact spec_ReadVersion.mono _ _ | exact spec_l03Alone.mono _ _ | exact spec_l03From.mono _ _ _ _ _ _ _ | exact spec_l03Short.mono _ _ | exact spec_l03Signs.mono _ _ | exact LeO.none _ | refine LeO.ite ?_ ?_ | refine LeO.bind ?_ (fun _ => ?_)
mutual
def spec_ReadRange.j0 : Nat → List (S45) → List ByteArray → Bool → Option ((List (S45)) × Bool)
 | 0, _, _, _ => none
 | k + 1, x4, x5, x19 => if x19 = true then (some (x4, false)) else (spec_ReadRange.l0 k x4 x5 0)
def spec_ReadRange.l0 : Nat → List (S45) → List ByteArray → Int → Option ((List (S45)) × Bool)
 | 0, _, _, _ => none
 | k + 1, x4, x5, x6 => if x6 < (x5.length : Int) then (if 0 ≤ x6 then ((spec_l03Part.f k (rdOf ByteArray.empty x5 x6)).bind fun bt455 => (if bt455.2.2 = true then (if x4.length < 4398046511104 then (spec_ReadRange.l0 k (x4 ++ [(⟨bt455.1, bt455.2.1⟩ : S45)]) x5 (wrap64 (x6 + 1))) else (none)) else (some ((([] : List (S45))), false)))) else (none)) else (some (x4, true))
end
def spec_ReadRange.f (k : Nat) (a0 : ByteArray) : Option ((List (S45)) × Bool) := (some (([] : List (S45)) : List (S45))).bind fun y448 => ((spec_l03Parts.f k a0).bind fun t451 => (if (a0.size : Int) > 200 then (spec_ReadRange.j0 k y448 t451 true) else (spec_ReadRange.j0 k y448 t451 (decide ((t451.length : Int) > 8)))))
theorem spec_ReadRange.mono_l : ∀ k, (∀ y0 y1 y2, LeO (spec_ReadRange.j0 k y0 y1 y2) (spec_ReadRange.j0 (k + 1) y0 y1 y2)) ∧ (∀ y0 y1 y2, LeO (spec_ReadRange.l0 k y0 y1 y2) (spec_ReadRange.l0 (k + 1) y0 y1 y2))
 | 0 => ⟨fun _ _ _ r h => by simp [spec_ReadRange.j0] at h, fun _ _ _ r h => by simp [spec_ReadRange.l0] at h⟩
 | k + 1 => by
  obtain ⟨ih0, ih1⟩ := spec_ReadRange.mono_l k
  refine ⟨?_, ?_⟩
  ·intro y0 y1 y2
   unfold spec_ReadRange.j0
   repeat' first
   | (with_reducible exact ih0 _ _ _) | (with_reducible exact ih1 _ _ _) | (with_reducible exact spec_l03Part.mono _ _) | (with_reducible exact spec_l03Parts.mono _ _) | (with_reducible exact LeO.refl _) | (with_reducible exact LeO.none _) | (with_reducible refine LeO.ite ?_ ?_) | (with_reducible refine LeO.bind ?_ (fun _ => ?_)) | exact ih0 _ _ _ | exact ih1 _ _ _ | exact spec_l03Part.mono _ _ | exact spec_l03Parts.mono _ _ | exact LeO.none _ | refine LeO.ite ?_ ?_ | refine LeO.bind ?_ (fun _ => ?_)
  ·intro y0 y1 y2
   unfold spec_ReadRange.l0
   repeat' first
   | (with_reducible exact ih0 _ _ _) | (with_reducible exact ih1 _ _ _) | (with_reducible exact spec_l03Part.mono _ _) | (with_reducible exact spec_l03Parts.mono _ _) | (with_reducible exact LeO.refl _) | (with_reducible exact LeO.none _) | (with_reducible refine LeO.ite ?_ ?_) | (with_reducible refine LeO.bind ?_ (fun _ => ?_)) | exact ih0 _ _ _ | exact ih1 _ _ _ | exact spec_l03Part.mono _ _ | exact spec_l03Parts.mono _ _ | exact LeO.none _ | refine LeO.ite ?_ ?_ | refine LeO.bind ?_ (fun _ => ?_)
theorem spec_ReadRange.mono : ∀ a0 k, LeO (spec_ReadRange.f k a0) (spec_ReadRange.f (k + 1) a0) := by
 intro a0 k
 obtain ⟨ih0, ih1⟩ := spec_ReadRange.mono_l k
 unfold spec_ReadRange.f
 repeat' first
   | (with_reducible exact ih0 _ _ _) | (with_reducible exact ih1 _ _ _) | (with_reducible exact spec_l03Part.mono _ _) | (with_reducible exact spec_l03Parts.mono _ _) | (with_reducible exact LeO.refl _) | (with_reducible exact LeO.none _) | (with_reducible refine LeO.ite ?_ ?_) | (with_reducible refine LeO.bind ?_ (fun _ => ?_)) | exact ih0 _ _ _ | exact ih1 _ _ _ | exact spec_l03Part.mono _ _ | exact spec_l03Parts.mono _ _ | exact LeO.none _ | refine LeO.ite ?_ ?_ | refine LeO.bind ?_ (fun _ => ?_)
mutual
def spec_l03Text.j0 : Nat → ByteArray → Int → List Int → Int → Int → Option (ByteArray × Int × Int)
 | 0, _, _, _, _, _ => none
 | k + 1, x3, x4, x1000, x1001, x1002 => spec_l03Text.l0 k x3 x4 0 x1000 x1001 x1002
def spec_l03Text.l0 : Nat → ByteArray → Int → Int → List Int → Int → Int → Option (ByteArray × Int × Int)
 | 0, _, _, _, _, _, _ => none
 | k + 1, x3, x4, x5, x1000, x1001, x1002 => if x5 < x4 then (if x5 > 0 then (if x3.size + 4 ≤ 9223372036854775807 then (spec_l03Text.j2 k (x3 ++ (⟨#[32, 124, 124, 32]⟩ : ByteArray)) x4 x5 x1000 x1001 x1002) else (none)) else (spec_l03Text.j2 k x3 x4 x5 x1000 x1001 x1002)) else (some (x3, x1001, x1002))
def spec_l03Text.j2 : Nat → ByteArray → Int → Int → List Int → Int → Int → Option (ByteArray × Int × Int)
 | 0, _, _, _, _, _, _ => none
 | k + 1, x3, x4, x5, x1000, x1001, x1002 => (spec_l01Below.f x1000 x1001 x1002 8).bind fun bt474 => (if bt474.1 = 0 then (if x3.size + 1 ≤ 9223372036854775807 then (spec_l03Text.l0 k (x3 ++ (⟨#[42]⟩ : ByteArray)) x4 (wrap64 (x5 + 1)) x1000 bt474.2.1 bt474.2.2) else (none)) else (if bt474.1 = 1 then (if x3.size + 1 ≤ 9223372036854775807 then ((spec_l02Right.f k x1000 bt474.2.1 bt474.2.2).bind fun bt477 => (if (x3 ++ (⟨#[94]⟩ : ByteArray)).size + bt477.1.size ≤ 9223372036854775807 then (spec_l03Text.l0 k ((x3 ++ (⟨#[94]⟩ : ByteArray)) ++ bt477.1) x4 (wrap64 (x5 + 1)) x1000 bt477.2.1 bt477.2.2) else (none))) else (none)) else (if bt474.1 = 2 then (if x3.size + 1 ≤ 9223372036854775807 then ((spec_l02Right.f k x1000 bt474.2.1 bt474.2.2).bind fun bt480 => (if (x3 ++ (⟨#[126]⟩ : ByteArray)).size + bt480.1.size ≤ 9223372036854775807 then (spec_l03Text.l0 k ((x3 ++ (⟨#[126]⟩ : ByteArray)) ++ bt480.1) x4 (wrap64 (x5 + 1)) x1000 bt480.2.1 bt480.2.2) else (none))) else (none)) else (if bt474.1 = 3 then (if x3.size + 2 ≤ 9223372036854775807 then ((spec_l02Right.f k x1000 bt474.2.1 bt474.2.2).bind fun bt483 => (if (x3 ++ (⟨#[62, 61]⟩ : ByteArray)).size + bt483.1.size ≤ 9223372036854775807 then (spec_l03Text.l0 k ((x3 ++ (⟨#[62, 61]⟩ : ByteArray)) ++ bt483.1) x4 (wrap64 (x5 + 1)) x1000 bt483.2.1 bt483.2.2) else (none))) else (none)) else (if bt474.1 = 4 then (if x3.size + 2 ≤ 9223372036854775807 then ((spec_l02Right.f k x1000 bt474.2.1 bt474.2.2).bind fun bt486 => (if (x3 ++ (⟨#[62, 61]⟩ : ByteArray)).size + bt486.1.size ≤ 9223372036854775807 then (if ((x3 ++ (⟨#[62, 61]⟩ : ByteArray)) ++ bt486.1).size + 2 ≤ 9223372036854775807 then ((spec_l02Right.f k x1000 bt486.2.1 bt486.2.2).bind fun bt489 => (if (((x3 ++ (⟨#[62, 61]⟩ : ByteArray)) ++ bt486.1) ++ (⟨#[32, 60]⟩ : ByteArray)).size + bt489.1.size ≤ 9223372036854775807 then (spec_l03Text.l0 k ((((x3 ++ (⟨#[62, 61]⟩ : ByteArray)) ++ bt486.1) ++ (⟨#[32, 60]⟩ : ByteArray)) ++ bt489.1) x4 (wrap64 (x5 + 1)) x1000 bt489.2.1 bt489.2.2) else (none))) else (none)) else (none))) else (none)) else (if bt474.1 = 5 then ((spec_l01Pick.f x1000 bt474.2.1 bt474.2.2 (([(⟨#[49]⟩ : ByteArray), (⟨#[49, 46, 50]⟩ : ByteArray), (⟨#[48]⟩ : ByteArray), (⟨#[48, 46, 48]⟩ : ByteArray), (⟨#[60, 50, 46, 48, 46, 48]⟩ : ByteArray), (⟨#[48, 49]⟩ : ByteArray), (⟨#[49, 46]⟩ : ByteArray), (⟨#[57, 57, 57, 57, 57, 57, 57, 57, 57]⟩ : ByteArray), (⟨#[94, 57, 57, 57, 57, 57, 57, 57, 57, 57, 46, 48, 46, 48]⟩ : ByteArray)] : List ByteArray))).bind fun bt495 => (if x3.size + bt495.1.size ≤ 9223372036854775807 then (spec_l03Text.l0 k (x3 ++ bt495.1) x4 (wrap64 (x5 + 1)) x1000 bt495.2.1 bt495.2.2) else (none))) else ((spec_l02Right.f k x1000 bt474.2.1 bt474.2.2).bind fun bt498 => (if x3.size + bt498.1.size ≤ 9223372036854775807 then (spec_l03Text.l0 k (x3 ++ bt498.1) x4 (wrap64 (x5 + 1)) x1000 bt498.2.1 bt498.2.2) else (none)))))))))
end
def spec_l03Text.f (k : Nat) (s0_0 : List Int) (s0_1 : Int) (s0_2 : Int) : Option (ByteArray × Int × Int) := (spec_l01Below.f s0_0 s0_1 s0_2 3).bind fun bt465 => ((spec_l01Once.f s0_0 bt465.2.1 bt465.2.2 16).bind fun bt468 => (if bt468.1 = true then ((spec_l01Below.f s0_0 bt468.2.1 bt468.2.2 2).bind fun bt471 => (spec_l03Text.j0 k (⟨#[]⟩ : ByteArray) (wrap64 (8 + bt471.1)) s0_0 bt471.2.1 bt471.2.2)) else (spec_l03Text.j0 k (⟨#[]⟩ : ByteArray) (wrap64 (1 + bt465.1)) s0_0 bt468.2.1 bt468.2.2)))
theorem spec_l03Text.mono_l : ∀ k, (∀ y0 y1 y2 y3 y4, LeO (spec_l03Text.j0 k y0 y1 y2 y3 y4) (spec_l03Text.j0 (k + 1) y0 y1 y2 y3 y4)) ∧ (∀ y0 y1 y2 y3 y4 y5, LeO (spec_l03Text.l0 k y0 y1 y2 y3 y4 y5) (spec_l03Text.l0 (k + 1) y0 y1 y2 y3 y4 y5)) ∧ (∀ y0 y1 y2 y3 y4 y5, LeO (spec_l03Text.j2 k y0 y1 y2 y3 y4 y5) (spec_l03Text.j2 (k + 1) y0 y1 y2 y3 y4 y5))
 | 0 => ⟨fun _ _ _ _ _ r h => by simp [spec_l03Text.j0] at h, fun _ _ _ _ _ _ r h => by simp [spec_l03Text.l0] at h, fun _ _ _ _ _ _ r h => by simp [spec_l03Text.j2] at h⟩
 | k + 1 => by
  obtain ⟨ih0, ih1, ih2⟩ := spec_l03Text.mono_l k
  refine ⟨?_, ?_, ?_⟩
  ·intro y0 y1 y2 y3 y4
   unfold spec_l03Text.j0
   repeat' first
   | (with_reducible exact ih0 _ _ _ _ _) | (with_reducible exact ih1 _ _ _ _ _ _) | (with_reducible exact ih2 _ _ _ _ _ _) | (with_reducible exact spec_l02Right.mono _ _ _ _) | (with_reducible exact LeO.refl _) | (with_reducible exact LeO.none _) | (with_reducible refine LeO.ite ?_ ?_) | (with_reducible refine LeO.bind ?_ (fun _ => ?_)) | exact ih0 _ _ _ _ _ | exact ih1 _ _ _ _ _ _ | exact ih2 _ _ _ _ _ _ | exact spec_l02Right.mono _ _ _ _ | exact LeO.none _ | refine LeO.ite ?_ ?_ | refine LeO.bind ?_ (fun _ => ?_)
  ·intro y0 y1 y2 y3 y4 y5
   unfold spec_l03Text.l0
   repeat' first
   | (with_reducible exact ih0 _ _ _ _ _) | (with_reducible exact ih1 _ _ _ _ _ _) | (with_reducible exact ih2 _ _ _ _ _ _) | (with_reducible exact spec_l02Right.mono _ _ _ _) | (with_reducible exact LeO.refl _) | (with_reducible exact LeO.none _) | (with_reducible refine LeO.ite ?_ ?_) | (with_reducible refine LeO.bind ?_ (fun _ => ?_)) | exact ih0 _ _ _ _ _ | exact ih1 _ _ _ _ _ _ | exact ih2 _ _ _ _ _ _ | exact spec_l02Right.mono _ _ _ _ | exact LeO.none _ | refine LeO.ite ?_ ?_ | refine LeO.bind ?_ (fun _ => ?_)
  ·intro y0 y1 y2 y3 y4 y5
   unfold spec_l03Text.j2
   repeat' first
   | (with_reducible exact ih0 _ _ _ _ _) | (with_reducible exact ih1 _ _ _ _ _ _) | (with_reducible exact ih2 _ _ _ _ _ _) | (with_reducible exact spec_l02Right.mono _ _ _ _) | (with_reducible exact LeO.refl _) | (with_reducible exact LeO.none _) | (with_reducible refine LeO.ite ?_ ?_) | (with_reducible refine LeO.bind ?_ (fun _ => ?_)) | exact ih0 _ _ _ _ _ | exact ih1 _ _ _ _ _ _ | exact ih2 _ _ _ _ _ _ | exact spec_l02Right.mono _ _ _ _ | exact LeO.none _ | refine LeO.ite ?_ ?_ | refine LeO.bind ?_ (fun _ => ?_)
theorem spec_l03Text.mono : ∀ a0 a1 a2 k, LeO (spec_l03Text.f k a0 a1 a2) (spec_l03Text.f (k + 1) a0 a1 a2) := by
 intro a0 a1 a2 k
 obtain ⟨ih0, ih1, ih2⟩ := spec_l03Text.mono_l k
 unfold spec_l03Text.f
 repeat' first
   | (with_reducible exact ih0 _ _ _ _ _) | (with_reducible exact ih1 _ _ _ _ _ _) | (with_reducible exact ih2 _ _ _ _ _ _) | (with_reducible exact spec_l02Right.mono _ _ _ _) | (with_reducible exact LeO.refl _) | (with_reducible exact LeO.none _) | (with_reducible refine LeO.ite ?_ ?_) | (with_reducible refine LeO.bind ?_ (fun _ => ?_)) | exact ih0 _ _ _ _ _ | exact ih1 _ _ _ _ _ _ | exact ih2 _ _ _ _ _ _ | exact spec_l02Right.mono _ _ _ _ | exact LeO.none _ | refine LeO.ite ?_ ?_ | refine LeO.bind ?_ (fun _ => ?_)
def spec_l03Range.j0 : Nat → List (S45) → Bool → List Int → Int → Int → Option ((List (S45)) × Int × Int)
 | 0, _, _, _, _, _ => none
 | k + 1, x3, x17, x1000, x1001, x1002 => if x17 = true then ((spec_l01Below.f x1000 x1001 x1002 (x3.length : Int)).bind fun bt511 => ((spec_l01Pick.f x1000 bt511.2.1 bt511.2.2 (([(⟨#[120]⟩ : ByteArray), (⟨#[49]⟩ : ByteArray), (⟨#[]⟩ : ByteArray), (⟨#[49, 46, 48, 46, 48, 45]⟩ : ByteArray)] : List ByteArray))).bind fun bt517 => (if 0 ≤ bt511.1 then (if bt511.1 < (x3.length : Int) then (some ((x3.set (bt511.1 : Int).toNat (⟨bt517.1, (rd_T45 x3 bt511.1).f1⟩ : S45)), bt517.2.1, bt517.2.2)) else (none)) else (none)))) else (some (x3, x1001, x1002))
def spec_l03Range.f (k : Nat) (s0_0 : List Int) (s0_1 : Int) (s0_2 : Int) : Option ((List (S45)) × Int × Int) := (spec_l03Text.f k s0_0 s0_1 s0_2).bind fun bt501 => ((spec_ReadRange.f k bt501.1).bind fun bt504 => (if (bt504.1.length : Int) > 0 then ((spec_l01Once.f s0_0 bt501.2.1 bt501.2.2 12).bind fun bt508 => (spec_l03Range.j0 k bt504.1 bt508.1 s0_0 bt508.2.1 bt508.2.2)) else (spec_l03Range.j0 k bt504.1 false s0_0 bt501.2.1 bt501.2.2)))
theorem spec_l03Range.mono_l : ∀ k, (∀ y0 y1 y2 y3 y4, LeO (spec_l03Range.j0 k y0 y1 y2 y3 y4) (spec_l03Range.j0 (k + 1) y0 y1 y2 y3 y4))
 | 0 => fun _ _ _ _ _ r h => by simp [spec_l03Range.j0] at h
 | k + 1 => by
  have ih0 := spec_l03Range.mono_l k
  ·intro y0 y1 y2 y3 y4
   unfold spec_l03Range.j0
   repeat' first
   | (with_reducible exact ih0 _ _ _ _ _) | (with_reducible exact spec_ReadRange.mono _ _) | (with_reducible exact spec_l03Text.mono _ _ _ _) | (with_reducible exact LeO.refl _) | (with_reducible exact LeO.none _) | (with_reducible refine LeO.ite ?_ ?_) | (with_reducible refine LeO.bind ?_ (fun _ => ?_)) | exact ih0 _ _ _ _ _ | exact spec_ReadRange.mono _ _ | exact spec_l03Text.mono _ _ _ _ | exact LeO.none _ | refine LeO.ite ?_ ?_ | refine LeO.bind ?_ (fun _ => ?_)
theorem spec_l03Range.mono : ∀ a0 a1 a2 k, LeO (spec_l03Range.f k a0 a1 a2) (spec_l03Range.f (k + 1) a0 a1 a2) := by
 intro a0 a1 a2 k
 have ih0 := spec_l03Range.mono_l k
 unfold spec_l03Range.f
 repeat' first
   | (with_reducible exact ih0 _ _ _ _ _) | (with_reducible exact spec_ReadRange.mono _ _) | (with_reducible exact spec_l03Text.mono _ _ _ _) | (with_reducible exact LeO.refl _) | (with_reducible exact LeO.none _) | (with_reducible refine LeO.ite ?_ ?_) | (with_reducible refine LeO.bind ?_ (fun _ => ?_)) | exact ih0 _ _ _ _ _ | exact spec_ReadRange.mono _ _ | exact spec_l03Text.mono _ _ _ _ | exact LeO.none _ | refine LeO.ite ?_ ?_ | refine LeO.bind ?_ (fun _ => ?_)
def spec_DrawPick.f (k : Nat) (l0 : List Int) : Option (List ByteArray × (List (S45))) := (spec_l01New.f k l0).bind fun bt521 => ((spec_l02List.f k bt521.1 bt521.2.1 bt521.2.2).bind fun bt525 => ((spec_l03Range.f k bt521.1 bt525.2.1 bt525.2.2).bind fun bt530 => (some (bt525.1, bt530.1))))
theorem spec_DrawPick.mono : ∀ a0 k, LeO (spec_DrawPick.f k a0) (spec_DrawPick.f (k + 1) a0) := by
 intro a0 k
 unfold spec_DrawPick.f
 repeat' first
   | (with_reducible exact spec_l01New.mono _ _) | (with_reducible exact spec_l02List.mono _ _ _ _) | (with_reducible exact spec_l03Range.mono _ _ _ _) | (with_reducible exact LeO.refl _) | (with_reducible exact LeO.none _) | (with_reducible refine LeO.ite ?_ ?_) | (with_reducible refine LeO.bind ?_ (fun _ => ?_)) | exact spec_l01New.mono _ _ | exact spec_l02List.mono _ _ _ _ | exact spec_l03Range.mono _ _ _ _ | exact LeO.none _ | refine LeO.ite ?_ ?_ | refine LeO.bind ?_ (fun _ => ?_)
def strings_Cut.f (a0 : ByteArray) (a1 : ByteArray) : Option (ByteArray × ByteArray × Bool) := if a0.size < 4294967281 then some (⟨(Lib.cut a0.data.toList a1.data.toList).1.toArray⟩, ⟨(Lib.cut a0.data.toList a1.data.toList).2.1.toArray⟩, (Lib.cut a0.data.toList a1.data.toList).2.2) else none
theorem strings_Cut.calls (a0 : ByteArray) (a1 : ByteArray) (r1 : ByteArray) (r2 : ByteArray) (r3 : Bool) (w : World) (hGM : Glob FactM w) (h : strings_Cut.f a0 a1 = some (r1, r2, r3)) :
  Calls Tryz.prog 24 #[.string a0, .string a1] w fun e w' => e = .returned (.tuple #[.string r1, .string r2, .bool r3]) ∧ Drawn0 w w' := by
 unfold strings_Cut.f at h
 by_cases hc : a0.size < 4294967281
 ·rw [if_pos hc] at h
  obtain ⟨rfl, rfl, rfl⟩ := by simpa using h
  obtain ⟨m, hm⟩ := FactM.here hGM
  exact (Tryz.strings_Cut a0 a1 m w hc hm).mono fun e w' ⟨h1, h2⟩ => ⟨h1, ⟨h2⟩⟩
 ·rw [if_neg hc] at h; cases h
def strings_Split.f (a0 : ByteArray) (a1 : ByteArray) : Option (List ByteArray) := if a0.size < 4294967281 ∧ 1 ≤ a1.size then some (Lib.splitB a1 0 (Lib.countB a0 a1) a0) else none
theorem strings_Split.calls (a0 : ByteArray) (a1 : ByteArray) (r : List ByteArray) (w : World) (hGM : Glob FactM w) (h : strings_Split.f a0 a1 = some r) :
  Calls Tryz.prog 25 #[.string a0, .string a1] w fun e w' => ∃ v0_ : Value, e = .returned (v0_) ∧ Kd.R Kd.string 9 w' w.heap.size (fun _ => True) v0_ r ∧ Below w.heap.size w w' := by
 unfold strings_Split.f at h
 by_cases hc : a0.size < 4294967281 ∧ 1 ≤ a1.size
 ·rw [if_pos hc] at h
  obtain rfl := Option.some.inj h
  obtain ⟨m, hm⟩ := FactM.here hGM
  have hl : (Lib.splitB a1 0 (Lib.countB a0 a1) a0).length = Lib.countB a0 a1 + 1 := Lib.splitB_all a1 hc.2 0 _ a0 rfl
  have hn : Lib.countB a0 a1 ≤ a0.size := Lib.countB_le a1 hc.2 a0.size a0 (Nat.le_refl _)
  refine (Tryz.strings_Split a0 a1 m w hc.1 hm hc.2).mono fun e w' ⟨h1, h2⟩ => ⟨_, h1, ?_, ?_⟩
  ·rw [h2]
   refine Kd.R_of_own ?_ (fun _ _ => trivial)
   rw [hl]
   refine ⟨by rw [encs, List.length_map, hl]; omega, Or.inr ⟨w.heap.size, _, _, rfl, Nat.le_refl _, heap_alloc_new w _, Nat.le_refl _, by unfold maxLen; omega, by rw [List.size_toArray, List.length_map, hl]; omega, ?_⟩⟩
   rw [List.take_of_length_le (by rw [List.length_map, hl]; omega)]
   rfl
  ·rw [h2]; exact (Below.refl _ w).alloc (Nat.le_refl _) _
 ·rw [if_neg hc] at h; cases h
def impl_within.f (a0 : Int) (a1 : Int) (a2 : Int) : Option (Bool) := if a1 ≤ a0 then (some (decide (a0 ≤ a2))) else (some false)
set_option maxHeartbeats 8000000 in
set_option maxRecDepth 100000 in
theorem impl_within.calls (a0 : Int) (a1 : Int) (a2 : Int) (r : Bool) (w : World) (h : impl_within.f a0 a1 a2 = some r) :
  Calls Tryz.prog 44 #[.int .i64 a0, .int .i64 a1, .int .i64 a2] w fun e w' => e = .returned (.bool r) ∧ Drawn0 w w' := by
 have H : (if a1 ≤ a0 then (some (decide (a0 ≤ a2))) else (some false)) = some r := h
 clear h
 by_cases c4 : a1 ≤ a0
 ·rw [if_pos c4] at H
  have c4b0 : decide (a1 ≤ a0) = true := decide_eq_true c4
  clear c4
  obtain rfl := Option.some.inj H
  go_enter Tryz.func44, Tryz.ntmps44
  go_wp2
  go_ret
  exact ⟨by first | rfl | (simp; done) | (simp [*]; done) | (simp; exact isEmpty_ne _), by repeat (first | exact Drawn0.refl _ | apply Drawn0.step)⟩
 ·rw [if_neg c4] at H
  have c4b0 : decide (a1 ≤ a0) = false := decide_eq_false c4
  clear c4
  obtain rfl := Option.some.inj H
  go_enter Tryz.func44, Tryz.ntmps44
  go_wp2
  go_ret
  exact ⟨by first | rfl | (simp; done) | (simp [*]; done) | (simp; exact isEmpty_ne _), by repeat (first | exact Drawn0.refl _ | apply Drawn0.step)⟩
def strconv_Itoa.f (a0 : Int) : Option ByteArray := if -9223372036854775808 ≤ a0 ∧ a0 ≤ 9223372036854775807 then some ⟨(Lib.itoa a0).toArray⟩ else none
theorem strconv_Itoa.calls (a0 : Int) (r : ByteArray) (w : World) (hGT : Glob FactT w) (h : strconv_Itoa.f a0 = some r) :
  Calls Tryz.prog 74 #[.int .i64 a0] w fun e w' => e = .returned (.string r) ∧ Below w.heap.size w w' := by
 unfold strconv_Itoa.f at h
 by_cases hc : -9223372036854775808 ≤ a0 ∧ a0 ≤ 9223372036854775807
 ·rw [if_pos hc] at h
  obtain rfl := Option.some.inj h
  refine (Tryz.strconv_Itoa a0 hc.1 hc.2 w (FactT.here hGT)).mono fun e w' ⟨h1, k, os, h2⟩ => ⟨h1, ?_⟩
  rw [h2]; exact Lib.below_grow _ w (Nat.le_refl _) k os
 ·rw [if_neg hc] at h; cases h
def impl_DecText.f (a0 : Int) : Option (ByteArray) := (strconv_Itoa.f a0).bind fun t535 => (some t535)
set_option maxHeartbeats 8000000 in
set_option maxRecDepth 100000 in
theorem impl_DecText.calls (a0 : Int) (r : ByteArray) (w : World) (hGT : Glob FactT w) (h : impl_DecText.f a0 = some r) :
  Calls Tryz.prog 48 #[.int .i64 a0] w fun e w' => e = .returned (.string r) ∧ Below w.heap.size w w' := by
 have HB := Aside0.mk (Below.refl w.heap.size w)
 have HGT := Aside0.mk hGT
 clear hGT
 have H : ((strconv_Itoa.f a0).bind fun t535 => (some t535)) = some r := h
 clear h
 replace H := Option.bind_eq_some_iff.mp H
 obtain ⟨t535, A20, H⟩ := H
 replace H : (some t535) = some r := H
 have A2 := Aside0.mk A20
 clear A20
 obtain rfl := Option.some.inj H
 go_enter Tryz.func48, Tryz.ntmps48
 go_wp2_with (first | ((with_reducible refine gate_callee (f := 74) rfl ?_); refine goesL_ (some 4) rfl rfl Tryz.func74 (by kernel_rfl) rfl #[.int .i64 a0] rfl (by (try simp only [List.map_toArray, List.map_cons, List.map_nil]); first | done | rfl | (simp only [List.length_drop, List.length_take]; rfl)) ?_; (with_reducible refine (strconv_Itoa.calls a0 t535 _ ?side1 A2.out).mono ?_); (case side1 => exact Glob.below HGT.out (by repeat (first | (with_reducible first | exact HB.out | apply below_alloc | apply pw_below_drewN | apply below_drew1) | exact HB.out))); rintro e w3 ⟨rfl, hb⟩; refine ⟨_, rfl, ?_⟩; have n0_ := Aside0.mk (below_step (by repeat (first | (with_reducible first | exact HB.out | apply below_alloc | apply pw_below_drewN | apply below_drew1) | exact HB.out)) hb); clear HB; have HB := n0_; clear n0_; (try clear hb)))
 go_ret
 exact ⟨by first | rfl | (simp [errW_none, errW_some] <;> rfl) | (simp [*, errW_none, errW_some] <;> rfl), by repeat (first | (with_reducible first | exact HB.out | apply below_alloc | apply pw_below_drewN | apply below_drew1) | exact HB.out)⟩
end Go.Proofs.YtoidompkofomjaaGreatDoor.G

end
