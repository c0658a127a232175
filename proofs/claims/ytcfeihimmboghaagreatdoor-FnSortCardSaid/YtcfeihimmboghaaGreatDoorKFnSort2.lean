/- A part of the proof that the law FnSort answers true at every input that its row speaks of. Conditions: the row's own. -/
import Derived.Test.YtcfeihimmboghaaGreatDoorKFnSort0
import Derived.Test.YtcfeihimmboghaaGreatDoorKFnSort1
section
namespace Go.Proofs.YtcfeihimmboghaaGreatDoor.G
open Go.RowKit Go.Proofs.YtcfeihimmboghaaGreatDoorW.PrintWords Go.Proofs.YtcfeihimmboghaaGreatDoorW.PrintLast Go.Proofs.YtcfeihimmboghaaGreatDoorW.PrintMore
attribute [local go_sem] max2_int min2_int max_two min_two max_three min_three max_four min_four
attribute [local go_sem high] Go.Proofs.YtcfeihimmboghaaGreatDoor.G.str_gtr Go.Proofs.YtcfeihimmboghaaGreatDoor.G.str_leq Go.Proofs.YtcfeihimmboghaaGreatDoor.G.str_geq
set_option linter.unusedVariables false
set_option linter.unusedSimpArgs false
def spec_l01Pick.f (s0_0 : List Int) (s0_1 : Int) (s0_2 : Int) (l1 : List ByteArray) : Option (ByteArray × Int × Int) := (spec_l01Below.f s0_0 s0_1 s0_2 (l1.length : Int)).bind fun bt536 => (if 0 ≤ bt536.1 then (if bt536.1 < (l1.length : Int) then (some (rdOf ByteArray.empty l1 bt536.1, bt536.2.1, bt536.2.2)) else (none)) else (none))
def spec_l01Bent.f (s0_0 : List Int) (s0_1 : Int) (s0_2 : Int) (a1 : ByteArray) : Option (ByteArray × Int × Int) := (spec_l01Below.f s0_0 s0_1 s0_2 (wrap64 ((a1.size : Int) + 1))).bind fun bt540 => ((spec_l01Below.f s0_0 bt540.2.1 bt540.2.2 8).bind fun bt543 => (if bt543.1 = 0 then (if 0 ≤ bt540.1 then (if bt540.1 ≤ (a1.size : Int) then (some (a1.extract 0 (bt540.1 : Int).toNat, bt543.2.1, bt543.2.2)) else (none)) else (none)) else (if bt543.1 = 1 then (if 0 ≤ bt540.1 then (if bt540.1 ≤ (a1.size : Int) then ((spec_l01Pick.f s0_0 bt543.2.1 bt543.2.2 (([(⟨#[48]⟩ : ByteArray), (⟨#[32]⟩ : ByteArray), (⟨#[255]⟩ : ByteArray), (⟨#[34]⟩ : ByteArray), (⟨#[10]⟩ : ByteArray), (⟨#[97]⟩ : ByteArray), (⟨#[44]⟩ : ByteArray), (⟨#[61]⟩ : ByteArray)] : List ByteArray))).bind fun bt549 => (if (a1.extract 0 (bt540.1 : Int).toNat).size + bt549.1.size ≤ 9223372036854775807 then (if ((a1.extract 0 (bt540.1 : Int).toNat) ++ bt549.1).size + (a1.extract (bt540.1 : Int).toNat a1.size).size ≤ 9223372036854775807 then (some (((a1.extract 0 (bt540.1 : Int).toNat) ++ bt549.1) ++ (a1.extract (bt540.1 : Int).toNat a1.size), bt549.2.1, bt549.2.2)) else (none)) else (none))) else (none)) else (none)) else (if bt543.1 = 2 then (if bt540.1 < (a1.size : Int) then (if 0 ≤ bt540.1 then (if bt540.1 ≤ (a1.size : Int) then ((spec_l01Pick.f s0_0 bt543.2.1 bt543.2.2 (([(⟨#[48]⟩ : ByteArray), (⟨#[65]⟩ : ByteArray), (⟨#[0]⟩ : ByteArray), (⟨#[57]⟩ : ByteArray), (⟨#[93]⟩ : ByteArray), (⟨#[92]⟩ : ByteArray)] : List ByteArray))).bind fun bt555 => (if (a1.extract 0 (bt540.1 : Int).toNat).size + bt555.1.size ≤ 9223372036854775807 then (if 0 ≤ (wrap64 (bt540.1 + 1)) then (if (wrap64 (bt540.1 + 1)) ≤ (a1.size : Int) then (if ((a1.extract 0 (bt540.1 : Int).toNat) ++ bt555.1).size + (a1.extract ((wrap64 (bt540.1 + 1)) : Int).toNat a1.size).size ≤ 9223372036854775807 then (some (((a1.extract 0 (bt540.1 : Int).toNat) ++ bt555.1) ++ (a1.extract ((wrap64 (bt540.1 + 1)) : Int).toNat a1.size), bt555.2.1, bt555.2.2)) else (none)) else (none)) else (none)) else (none))) else (none)) else (none)) else (some (a1, bt543.2.1, bt543.2.2))) else (some (a1, bt543.2.1, bt543.2.2))))))
def spec_l01PickInt.f (s0_0 : List Int) (s0_1 : Int) (s0_2 : Int) (l1 : List Int) : Option (Int × Int × Int) := (spec_l01Below.f s0_0 s0_1 s0_2 (l1.length : Int)).bind fun bt558 => (if 0 ≤ bt558.1 then (if bt558.1 < (l1.length : Int) then (some (rd l1 bt558.1, bt558.2.1, bt558.2.2)) else (none)) else (none))
def spec_l01Once.f (s0_0 : List Int) (s0_1 : Int) (s0_2 : Int) (a1 : Int) : Option (Bool × Int × Int) := (spec_l01Below.f s0_0 s0_1 s0_2 a1).bind fun bt562 => (some ((bt562.1 == 0), bt562.2.1, bt562.2.2))
def spec_l02Version.j0 : Nat → List Int → Int → Int → Int → Int → Int → List ByteArray → Option (Int × Int × Int × List ByteArray × Int × Int)
 | 0, _, _, _, _, _, _, _ => none
 | k + 1, x1000, x1001, x1002, x585000, x585001, x585002, x585003 => (spec_l01Below.f x1000 x1001 x1002 24).bind fun bt609 => (if bt609.1 = 0 then ((spec_l01PickInt.f x1000 bt609.2.1 bt609.2.2 (([(-1), 999999999, 1000000000] : List Int))).bind fun bt615 => (some (x585000, bt615.1, x585002, x585003, bt615.2.1, bt615.2.2))) else (if bt609.1 = 1 then ((spec_l01Pick.f x1000 bt609.2.1 bt609.2.2 (([(⟨#[]⟩ : ByteArray), (⟨#[48, 49]⟩ : ByteArray), (⟨#[97, 95, 98]⟩ : ByteArray), (⟨#[49, 48, 48, 48, 48, 48, 48, 48, 48, 48]⟩ : ByteArray), (⟨#[97, 98, 99, 100, 101, 102, 103, 104, 105, 106, 107, 108, 109, 110, 111, 112, 113, 114, 115, 116]⟩ : ByteArray), (⟨#[97, 98, 99, 100, 101, 102, 103, 104, 105, 106, 107, 108, 109, 110, 111, 112, 113, 114, 115, 116, 117]⟩ : ByteArray)] : List ByteArray))).bind fun bt621 => (if x585003.length < 8796093022208 then (some (x585000, x585001, x585002, (x585003 ++ [bt621.1]), bt621.2.1, bt621.2.2)) else (none))) else (if bt609.1 = 2 then ((some (([(⟨#[97]⟩ : ByteArray), (⟨#[98]⟩ : ByteArray), (⟨#[99]⟩ : ByteArray), (⟨#[100]⟩ : ByteArray), (⟨#[101]⟩ : ByteArray)] : List ByteArray) : List ByteArray)).bind fun y627 => ((spec_l01Once.f x1000 bt609.2.1 bt609.2.2 2).bind fun bt630 => (if bt630.1 = true then (if y627.length < 8796093022208 then (some (x585000, x585001, x585002, (y627 ++ [(⟨#[102]⟩ : ByteArray)]), bt630.2.1, bt630.2.2)) else (none)) else (some (x585000, x585001, x585002, y627, bt630.2.1, bt630.2.2))))) else (some (x585000, x585001, x585002, x585003, bt609.2.1, bt609.2.2)))))
def spec_l02Version.f (k : Nat) (s0_0 : List Int) (s0_1 : Int) (s0_2 : Int) : Option (Int × Int × Int × List ByteArray × Int × Int) := (spec_l01PickInt.f s0_0 s0_1 s0_2 (([0, 1, 1, 2, 10] : List Int))).bind fun bt569 => ((spec_l01PickInt.f s0_0 bt569.2.1 bt569.2.2 (([0, 0, 1, 2, 12] : List Int))).bind fun bt575 => ((spec_l01PickInt.f s0_0 bt575.2.1 bt575.2.2 (([0, 0, 1, 3, 9] : List Int))).bind fun bt581 => ((spec_l01Once.f s0_0 bt581.2.1 bt581.2.2 4).bind fun bt585 => (if bt585.1 = true then ((spec_l01Pick.f s0_0 bt585.2.1 bt585.2.2 (([(⟨#[114, 99]⟩ : ByteArray), (⟨#[98, 101, 116, 97]⟩ : ByteArray), (⟨#[49]⟩ : ByteArray), (⟨#[48]⟩ : ByteArray), (⟨#[120, 45, 121]⟩ : ByteArray)] : List ByteArray))).bind fun bt591 => ((some (([bt591.1] : List ByteArray) : List ByteArray)).bind fun y594 => ((spec_l01Once.f s0_0 bt591.2.1 bt591.2.2 2).bind fun bt597 => (if bt597.1 = true then ((spec_l01Pick.f s0_0 bt597.2.1 bt597.2.2 (([(⟨#[49]⟩ : ByteArray), (⟨#[50]⟩ : ByteArray), (⟨#[49, 48]⟩ : ByteArray), (⟨#[97]⟩ : ByteArray)] : List ByteArray))).bind fun bt603 => (if y594.length < 8796093022208 then (spec_l02Version.j0 k s0_0 bt603.2.1 bt603.2.2 bt569.1 bt575.1 bt581.1 (y594 ++ [bt603.1])) else (none))) else (spec_l02Version.j0 k s0_0 bt597.2.1 bt597.2.2 bt569.1 bt575.1 bt581.1 y594))))) else (spec_l02Version.j0 k s0_0 bt585.2.1 bt585.2.2 bt569.1 bt575.1 bt581.1 ([] : List ByteArray))))))
theorem spec_l02Version.mono_l : ∀ k, (∀ y0 y1 y2 y3 y4 y5 y6, LeO (spec_l02Version.j0 k y0 y1 y2 y3 y4 y5 y6) (spec_l02Version.j0 (k + 1) y0 y1 y2 y3 y4 y5 y6))
 | 0 => fun _ _ _ _ _ _ _ r h => by simp [spec_l02Version.j0] at h
 | k + 1 => by
  have ih0 := spec_l02Version.mono_l k
  ·intro y0 y1 y2 y3 y4 y5 y6
   unfold spec_l02Version.j0
   repeat' first
   | (with_reducible exact ih0 _ _ _ _ _ _ _)
   | (with_reducible exact LeO.refl _)
   | (with_reducible exact LeO.none _)
   | (with_reducible refine LeO.ite ?_ ?_)
   | (with_reducible refine LeO.bind ?_ (fun _ => ?_))
   | exact ih0 _ _ _ _ _ _ _
   | exact LeO.none _
   | refine LeO.ite ?_ ?_
   | refine LeO.bind ?_ (fun _ => ?_)
theorem spec_l02Version.mono : ∀ a0 a1 a2 k, LeO (spec_l02Version.f k a0 a1 a2) (spec_l02Version.f (k + 1) a0 a1 a2) := by
 intro a0 a1 a2 k
 have ih0 := spec_l02Version.mono_l k
 unfold spec_l02Version.f
 repeat' first
   | (with_reducible exact ih0 _ _ _ _ _ _ _)
   | (with_reducible exact LeO.refl _)
   | (with_reducible exact LeO.none _)
   | (with_reducible refine LeO.ite ?_ ?_)
   | (with_reducible refine LeO.bind ?_ (fun _ => ?_))
   | exact ih0 _ _ _ _ _ _ _
   | exact LeO.none _
   | refine LeO.ite ?_ ?_
   | refine LeO.bind ?_ (fun _ => ?_)
def spec_l02Right.f (k : Nat) (s0_0 : List Int) (s0_1 : Int) (s0_2 : Int) : Option (ByteArray × Int × Int) := (spec_l02Version.f k s0_0 s0_1 s0_2).bind fun bt636 => ((spec_VersionText.f k bt636.1 bt636.2.1 bt636.2.2.1 bt636.2.2.2.1).bind fun t644 => (if t644.toList = ([] : List UInt8) then (some ((⟨#[49, 46, 48, 46, 48]⟩ : ByteArray), bt636.2.2.2.2.1, bt636.2.2.2.2.2)) else (some (t644, bt636.2.2.2.2.1, bt636.2.2.2.2.2))))
theorem spec_l02Right.mono : ∀ a0 a1 a2 k, LeO (spec_l02Right.f k a0 a1 a2) (spec_l02Right.f (k + 1) a0 a1 a2) := by
 intro a0 a1 a2 k
 unfold spec_l02Right.f
 repeat' first
   | (with_reducible exact spec_VersionText.mono _ _ _ _ _)
   | (with_reducible exact spec_l02Version.mono _ _ _ _)
   | (with_reducible exact LeO.refl _)
   | (with_reducible exact LeO.none _)
   | (with_reducible refine LeO.ite ?_ ?_)
   | (with_reducible refine LeO.bind ?_ (fun _ => ?_))
   | exact spec_VersionText.mono _ _ _ _ _
   | exact spec_l02Version.mono _ _ _ _
   | exact LeO.none _
   | refine LeO.ite ?_ ?_
   | refine LeO.bind ?_ (fun _ => ?_)
def spec_l02List.l0 : Nat → List ByteArray → Int → Int → List Int → Int → Int → Option (List ByteArray × Int × Int)
 | 0, _, _, _, _, _, _ => none
 | k + 1, x3, x4, x5, x1000, x1001, x1002 => if x5 < x4 then ((spec_l02Right.f k x1000 x1001 x1002).bind fun bt651 => ((spec_l01Bent.f x1000 bt651.2.1 bt651.2.2 bt651.1).bind fun bt654 => (if x3.length < 8796093022208 then (spec_l02List.l0 k (x3 ++ [bt654.1]) x4 (wrap64 (x5 + 1)) x1000 bt654.2.1 bt654.2.2) else (none)))) else (some (x3, x1001, x1002))
def spec_l02List.f (k : Nat) (s0_0 : List Int) (s0_1 : Int) (s0_2 : Int) : Option (List ByteArray × Int × Int) := (spec_l01Below.f s0_0 s0_1 s0_2 6).bind fun bt648 => (spec_l02List.l0 k (([] : List ByteArray)) bt648.1 0 s0_0 bt648.2.1 bt648.2.2)
theorem spec_l02List.mono_l : ∀ k, (∀ y0 y1 y2 y3 y4 y5, LeO (spec_l02List.l0 k y0 y1 y2 y3 y4 y5) (spec_l02List.l0 (k + 1) y0 y1 y2 y3 y4 y5))
 | 0 => fun _ _ _ _ _ _ r h => by simp [spec_l02List.l0] at h
 | k + 1 => by
  have ih0 := spec_l02List.mono_l k
  ·intro y0 y1 y2 y3 y4 y5
   unfold spec_l02List.l0
   repeat' first
   | (with_reducible exact ih0 _ _ _ _ _ _)
   | (with_reducible exact spec_l02Right.mono _ _ _ _)
   | (with_reducible exact LeO.refl _)
   | (with_reducible exact LeO.none _)
   | (with_reducible refine LeO.ite ?_ ?_)
   | (with_reducible refine LeO.bind ?_ (fun _ => ?_))
   | exact ih0 _ _ _ _ _ _
   | exact spec_l02Right.mono _ _ _ _
   | exact LeO.none _
   | refine LeO.ite ?_ ?_
   | refine LeO.bind ?_ (fun _ => ?_)
theorem spec_l02List.mono : ∀ a0 a1 a2 k, LeO (spec_l02List.f k a0 a1 a2) (spec_l02List.f (k + 1) a0 a1 a2) := by
 intro a0 a1 a2 k
 have ih0 := spec_l02List.mono_l k
 unfold spec_l02List.f
 repeat' first
   | (with_reducible exact ih0 _ _ _ _ _ _)
   | (with_reducible exact spec_l02Right.mono _ _ _ _)
   | (with_reducible exact LeO.refl _)
   | (with_reducible exact LeO.none _)
   | (with_reducible refine LeO.ite ?_ ?_)
   | (with_reducible refine LeO.bind ?_ (fun _ => ?_))
   | exact ih0 _ _ _ _ _ _
   | exact spec_l02Right.mono _ _ _ _
   | exact LeO.none _
   | refine LeO.ite ?_ ?_
   | refine LeO.bind ?_ (fun _ => ?_)
def spec_DrawSortVersions.f (k : Nat) (l0 : List Int) : Option (List ByteArray) := (spec_l01New.f k l0).bind fun bt660 => ((spec_l02List.f k bt660.1 bt660.2.1 bt660.2.2).bind fun bt664 => (some bt664.1))
theorem spec_DrawSortVersions.mono : ∀ a0 k, LeO (spec_DrawSortVersions.f k a0) (spec_DrawSortVersions.f (k + 1) a0) := by
 intro a0 k
 unfold spec_DrawSortVersions.f
 repeat' first
   | (with_reducible exact spec_l01New.mono _ _)
   | (with_reducible exact spec_l02List.mono _ _ _ _)
   | (with_reducible exact LeO.refl _)
   | (with_reducible exact LeO.none _)
   | (with_reducible refine LeO.ite ?_ ?_)
   | (with_reducible refine LeO.bind ?_ (fun _ => ?_))
   | exact spec_l01New.mono _ _
   | exact spec_l02List.mono _ _ _ _
   | exact LeO.none _
   | refine LeO.ite ?_ ?_
   | refine LeO.bind ?_ (fun _ => ?_)
def spec_DrawNewest.f (k : Nat) (l0 : List Int) : Option (List ByteArray) := (spec_l01New.f k l0).bind fun bt669 => ((spec_l02List.f k bt669.1 bt669.2.1 bt669.2.2).bind fun bt673 => (some bt673.1))
theorem spec_DrawNewest.mono : ∀ a0 k, LeO (spec_DrawNewest.f k a0) (spec_DrawNewest.f (k + 1) a0) := by
 intro a0 k
 unfold spec_DrawNewest.f
 repeat' first
   | (with_reducible exact spec_l01New.mono _ _)
   | (with_reducible exact spec_l02List.mono _ _ _ _)
   | (with_reducible exact LeO.refl _)
   | (with_reducible exact LeO.none _)
   | (with_reducible refine LeO.ite ?_ ?_)
   | (with_reducible refine LeO.bind ?_ (fun _ => ?_))
   | exact spec_l01New.mono _ _
   | exact spec_l02List.mono _ _ _ _
   | exact LeO.none _
   | refine LeO.ite ?_ ?_
   | refine LeO.bind ?_ (fun _ => ?_)
def spec_Newest.l0 : Nat → List ByteArray → ByteArray → Int → Option (ByteArray)
 | 0, _, _, _ => none
 | k + 1, x3, x4, x5 => if x5 < (x3.length : Int) then (if 0 ≤ x5 then ((spec_l01At.f k (rdOf ByteArray.empty x3 x5) 45).bind fun t696 => (if t696 < 0 then (spec_Newest.l0 k x3 (rdOf ByteArray.empty x3 x5) (wrap64 (x5 + 1))) else (spec_Newest.l0 k x3 x4 (wrap64 (x5 + 1))))) else (none)) else (if x4.toList = ([] : List UInt8) then (if (x3.length : Int) > 0 then (if 0 ≤ (wrap64 ((x3.length : Int) - 1)) then (if (wrap64 ((x3.length : Int) - 1)) < (x3.length : Int) then (some (rdOf ByteArray.empty x3 (wrap64 ((x3.length : Int) - 1)))) else (none)) else (none)) else (some x4)) else (some x4))
def spec_Newest.f (k : Nat) (l0 : List ByteArray) : Option (ByteArray) := (spec_SortVersions.f k l0).bind fun t692 => (spec_Newest.l0 k t692 (⟨#[]⟩ : ByteArray) 0)
theorem spec_Newest.mono_l : ∀ k, (∀ y0 y1 y2, LeO (spec_Newest.l0 k y0 y1 y2) (spec_Newest.l0 (k + 1) y0 y1 y2))
 | 0 => fun _ _ _ r h => by simp [spec_Newest.l0] at h
 | k + 1 => by
  have ih0 := spec_Newest.mono_l k
  ·intro y0 y1 y2
   unfold spec_Newest.l0
   repeat' first
   | (with_reducible exact ih0 _ _ _)
   | (with_reducible exact spec_SortVersions.mono _ _)
   | (with_reducible exact spec_l01At.mono _ _ _)
   | (with_reducible exact LeO.refl _)
   | (with_reducible exact LeO.none _)
   | (with_reducible refine LeO.ite ?_ ?_)
   | (with_reducible refine LeO.bind ?_ (fun _ => ?_))
   | exact ih0 _ _ _
   | exact spec_SortVersions.mono _ _
   | exact spec_l01At.mono _ _ _
   | exact LeO.none _
   | refine LeO.ite ?_ ?_
   | refine LeO.bind ?_ (fun _ => ?_)
theorem spec_Newest.mono : ∀ a0 k, LeO (spec_Newest.f k a0) (spec_Newest.f (k + 1) a0) := by
 intro a0 k
 have ih0 := spec_Newest.mono_l k
 unfold spec_Newest.f
 repeat' first
   | (with_reducible exact ih0 _ _ _)
   | (with_reducible exact spec_SortVersions.mono _ _)
   | (with_reducible exact spec_l01At.mono _ _ _)
   | (with_reducible exact LeO.refl _)
   | (with_reducible exact LeO.none _)
   | (with_reducible refine LeO.ite ?_ ?_)
   | (with_reducible refine LeO.bind ?_ (fun _ => ?_))
   | exact ih0 _ _ _
   | exact spec_SortVersions.mono _ _
   | exact spec_l01At.mono _ _ _
   | exact LeO.none _
   | refine LeO.ite ?_ ?_
   | refine LeO.bind ?_ (fun _ => ?_)
def impl_isVersion.f (k : Nat) (a0 : ByteArray) : Option (Bool) := (impl_ReadVersion.f k a0).bind fun bt227 => (some bt227.2.2.2.2)
theorem impl_isVersion.mono : ∀ a0 k, LeO (impl_isVersion.f k a0) (impl_isVersion.f (k + 1) a0) := by
 intro a0 k
 unfold impl_isVersion.f
 repeat' first
   | (with_reducible exact impl_ReadVersion.mono _ _)
   | (with_reducible exact LeO.refl _)
   | (with_reducible exact LeO.none _)
   | (with_reducible refine LeO.ite ?_ ?_)
   | (with_reducible refine LeO.bind ?_ (fun _ => ?_))
   | exact impl_ReadVersion.mono _ _
   | exact LeO.none _
   | refine LeO.ite ?_ ?_
   | refine LeO.bind ?_ (fun _ => ?_)
end Go.Proofs.YtcfeihimmboghaaGreatDoor.G

end
section
namespace Go.Proofs.YtcfeihimmboghaaGreatDoor.G
open Go.RowKit Go.Proofs.YtcfeihimmboghaaGreatDoorW.PrintWords Go.Proofs.YtcfeihimmboghaaGreatDoorW.PrintLast Go.Proofs.YtcfeihimmboghaaGreatDoorW.PrintMore
set_option linter.unusedVariables false
set_option linter.unusedSimpArgs false
def impl_SortPre.l0 : Nat → List ByteArray → List ByteArray → Int → Int → Option (List ByteArray)
 | 0, _, _, _, _ => none
 | k + 1, x3, x7, x8, x9 => if x9 < x8 then (if 0 ≤ x9 then (if x9 < (x7.length : Int) then ((impl_isVersion.f k (rdOf ByteArray.empty x7 x9)).bind fun t1 => (if t1 = true then (if x3.length < 8796093022208 then (impl_SortPre.l0 k (x3 ++ [rdOf ByteArray.empty x7 x9]) x7 x8 (wrap64 (x9 + 1))) else (none)) else (impl_SortPre.l0 k x3 x7 x8 (wrap64 (x9 + 1))))) else (none)) else (none)) else (some x3)
def impl_SortPre.f (k : Nat) (l0 : List ByteArray) : Option (List ByteArray) := impl_SortPre.l0 k ([] : List ByteArray) l0 (l0.length : Int) 0
end Go.Proofs.YtcfeihimmboghaaGreatDoor.G

end
