/- A part of the proof that the law FnExactPick answers true at every input that its row speaks of. Conditions: the row's own. -/
import Derived.Test.YtcfeihimmboghaaGreatDoorKFnExactPick0
import Derived.Test.YtcfeihimmboghaaGreatDoorKFnExactPick1
section
namespace Go.Proofs.YtcfeihimmboghaaGreatDoor.G
open Go.RowKit Go.Proofs.YtcfeihimmboghaaGreatDoorW.PrintWords Go.Proofs.YtcfeihimmboghaaGreatDoorW.PrintLast Go.Proofs.YtcfeihimmboghaaGreatDoorW.PrintMore
attribute [local go_sem] max2_int min2_int max_two min_two max_three min_three max_four min_four
attribute [local go_sem high] Go.Proofs.YtcfeihimmboghaaGreatDoor.G.str_gtr Go.Proofs.YtcfeihimmboghaaGreatDoor.G.str_leq Go.Proofs.YtcfeihimmboghaaGreatDoor.G.str_geq
set_option linter.unusedVariables false
set_option linter.unusedSimpArgs false
def impl_RangeOk.l0 : Nat → List (S86) → List (S86) → Int → Int → Option (Bool)
 | 0, _, _, _, _ => none
 | k + 1, x0, x5, x6, x7 => if x7 < x6 then (if 0 ≤ x7 then (if x7 < (x5.length : Int) then (if ((rd_T86 x5 x7).f0).toList = ([] : List UInt8) then (if ((rd_T86 x5 x7).f1).toList = ([] : List UInt8) then (impl_RangeOk.l0 k x0 x5 x6 (wrap64 (x7 + 1))) else ((impl_isVersion.f k ((rd_T86 x5 x7).f1)).bind fun t372 => (if t372 = true then (impl_RangeOk.l0 k x0 x5 x6 (wrap64 (x7 + 1))) else (some false)))) else ((impl_isVersion.f k ((rd_T86 x5 x7).f0)).bind fun t373 => (if t373 = true then (if ((rd_T86 x5 x7).f1).toList = ([] : List UInt8) then (impl_RangeOk.l0 k x0 x5 x6 (wrap64 (x7 + 1))) else ((impl_isVersion.f k ((rd_T86 x5 x7).f1)).bind fun t374 => (if t374 = true then (impl_RangeOk.l0 k x0 x5 x6 (wrap64 (x7 + 1))) else (some false)))) else (some false)))) else (none)) else (none)) else ((impl_within.f (x0.length : Int) 1 8).bind fun t369 => (some t369))
def impl_RangeOk.f (k : Nat) (l0 : List (S86)) : Option (Bool) := impl_RangeOk.l0 k l0 l0 (l0.length : Int) 0
theorem impl_RangeOk.mono_l : ∀ k, (∀ y0 y1 y2 y3, LeO (impl_RangeOk.l0 k y0 y1 y2 y3) (impl_RangeOk.l0 (k + 1) y0 y1 y2 y3))
 | 0 => fun _ _ _ _ r h => by simp [impl_RangeOk.l0] at h
 | k + 1 => by
  have ih0 := impl_RangeOk.mono_l k
  ·intro y0 y1 y2 y3
   unfold impl_RangeOk.l0
   repeat' first
   | (with_reducible exact ih0 _ _ _ _)
   | (with_reducible exact impl_isVersion.mono _ _)
   | (with_reducible exact LeO.refl _)
   | (with_reducible exact LeO.none _)
   | (with_reducible refine LeO.ite ?_ ?_)
   | (with_reducible refine LeO.bind ?_ (fun _ => ?_))
   | exact ih0 _ _ _ _
   | exact impl_isVersion.mono _ _
   | exact LeO.none _
   | refine LeO.ite ?_ ?_
   | refine LeO.bind ?_ (fun _ => ?_)
theorem impl_RangeOk.mono : ∀ a0 k, LeO (impl_RangeOk.f k a0) (impl_RangeOk.f (k + 1) a0) := by
 intro a0 k
 have ih0 := impl_RangeOk.mono_l k
 unfold impl_RangeOk.f
 repeat' first
   | (with_reducible exact ih0 _ _ _ _)
   | (with_reducible exact impl_isVersion.mono _ _)
   | (with_reducible exact LeO.refl _)
   | (with_reducible exact LeO.none _)
   | (with_reducible refine LeO.ite ?_ ?_)
   | (with_reducible refine LeO.bind ?_ (fun _ => ?_))
   | exact ih0 _ _ _ _
   | exact impl_isVersion.mono _ _
   | exact LeO.none _
   | refine LeO.ite ?_ ?_
   | refine LeO.bind ?_ (fun _ => ?_)
mutual
def impl_In.j0 : Nat → ByteArray → List (S86) → Bool → Int → Int → Int → List ByteArray → Option (Bool)
 | 0, _, _, _, _, _, _, _ => none
 | k + 1, x0, x1, x22, x383000, x383001, x383002, x383003 => if x22 = true then (some false) else (impl_In.l0 k x0 x1 (x1.length : Int) 0 x383000 x383001 x383002 x383003)
def impl_In.l0 : Nat → ByteArray → List (S86) → Int → Int → Int → Int → Int → List ByteArray → Option (Bool)
 | 0, _, _, _, _, _, _, _, _ => none
 | k + 1, x0, x23, x24, x25, x383000, x383001, x383002, x383003 => if x25 < x24 then (if 0 ≤ x25 then (if x25 < (x23.length : Int) then (if ((rd_T86 x23 x25).f0).toList = ([] : List UInt8) then (if ((rd_T86 x23 x25).f1).toList = ([] : List UInt8) then (impl_In.j2 k x0 x23 x24 x25 false x383000 x383001 x383002 x383003 ((rd_T86 x23 x25).f0) ((rd_T86 x23 x25).f1)) else ((impl_compareTexts.f k x0 ((rd_T86 x23 x25).f1)).bind fun t386 => (impl_In.j2 k x0 x23 x24 x25 (decide (t386 ≥ 0)) x383000 x383001 x383002 x383003 ((rd_T86 x23 x25).f0) ((rd_T86 x23 x25).f1)))) else ((impl_compareTexts.f k x0 ((rd_T86 x23 x25).f0)).bind fun t387 => (if t387 < 0 then (impl_In.j2 k x0 x23 x24 x25 true x383000 x383001 x383002 x383003 ((rd_T86 x23 x25).f0) ((rd_T86 x23 x25).f1)) else (if ((rd_T86 x23 x25).f1).toList = ([] : List UInt8) then (impl_In.j2 k x0 x23 x24 x25 false x383000 x383001 x383002 x383003 ((rd_T86 x23 x25).f0) ((rd_T86 x23 x25).f1)) else ((impl_compareTexts.f k x0 ((rd_T86 x23 x25).f1)).bind fun t388 => (impl_In.j2 k x0 x23 x24 x25 (decide (t388 ≥ 0)) x383000 x383001 x383002 x383003 ((rd_T86 x23 x25).f0) ((rd_T86 x23 x25).f1))))))) else (none)) else (none)) else (some false)
def impl_In.j2 : Nat → ByteArray → List (S86) → Int → Int → Bool → Int → Int → Int → List ByteArray → ByteArray → ByteArray → Option (Bool)
 | 0, _, _, _, _, _, _, _, _, _, _, _ => none
 | k + 1, x0, x23, x24, x25, x50, x383000, x383001, x383002, x383003, x386000, x386001 => if x50 = true then (impl_In.l0 k x0 x23 x24 (wrap64 (x25 + 1)) x383000 x383001 x383002 x383003) else ((impl_ReadVersion.f k x386000).bind fun bt389 => (if (x383003.length : Int) = 0 then (some true) else (if (bt389.2.2.2.1.length : Int) > 0 then (if bt389.1 = x383000 then (if bt389.2.1 = x383001 then (if bt389.2.2.1 = x383002 then (some true) else (impl_In.l0 k x0 x23 x24 (wrap64 (x25 + 1)) x383000 x383001 x383002 x383003)) else (impl_In.l0 k x0 x23 x24 (wrap64 (x25 + 1)) x383000 x383001 x383002 x383003)) else (impl_In.l0 k x0 x23 x24 (wrap64 (x25 + 1)) x383000 x383001 x383002 x383003)) else (impl_In.l0 k x0 x23 x24 (wrap64 (x25 + 1)) x383000 x383001 x383002 x383003))))
end
def impl_In.f (k : Nat) (a0 : ByteArray) (l1 : List (S86)) : Option (Bool) := (impl_ReadVersion.f k a0).bind fun bt375 => (if bt375.2.2.2.2 = true then ((impl_RangeOk.f k l1).bind fun t383 => (impl_In.j0 k a0 l1 (!t383) bt375.1 bt375.2.1 bt375.2.2.1 bt375.2.2.2.1)) else (impl_In.j0 k a0 l1 true bt375.1 bt375.2.1 bt375.2.2.1 bt375.2.2.2.1))
theorem impl_In.mono_l : ∀ k, (∀ y0 y1 y2 y3 y4 y5 y6, LeO (impl_In.j0 k y0 y1 y2 y3 y4 y5 y6) (impl_In.j0 (k + 1) y0 y1 y2 y3 y4 y5 y6)) ∧ (∀ y0 y1 y2 y3 y4 y5 y6 y7, LeO (impl_In.l0 k y0 y1 y2 y3 y4 y5 y6 y7) (impl_In.l0 (k + 1) y0 y1 y2 y3 y4 y5 y6 y7)) ∧ (∀ y0 y1 y2 y3 y4 y5 y6 y7 y8 y9 y10, LeO (impl_In.j2 k y0 y1 y2 y3 y4 y5 y6 y7 y8 y9 y10) (impl_In.j2 (k + 1) y0 y1 y2 y3 y4 y5 y6 y7 y8 y9 y10))
 | 0 => ⟨fun _ _ _ _ _ _ _ r h => by simp [impl_In.j0] at h, fun _ _ _ _ _ _ _ _ r h => by simp [impl_In.l0] at h, fun _ _ _ _ _ _ _ _ _ _ _ r h => by simp [impl_In.j2] at h⟩
 | k + 1 => by
  obtain ⟨ih0, ih1, ih2⟩ := impl_In.mono_l k
  refine ⟨?_, ?_, ?_⟩
  ·intro y0 y1 y2 y3 y4 y5 y6
   unfold impl_In.j0
   repeat' first
   | (with_reducible exact ih0 _ _ _ _ _ _ _)
   | (with_reducible exact ih1 _ _ _ _ _ _ _ _)
   | (with_reducible exact ih2 _ _ _ _ _ _ _ _ _ _ _)
   | (with_reducible exact impl_RangeOk.mono _ _)
   | (with_reducible exact impl_ReadVersion.mono _ _)
   | (with_reducible exact impl_compareTexts.mono _ _ _)
   | (with_reducible exact LeO.refl _)
   | (with_reducible exact LeO.none _)
   | (with_reducible refine LeO.ite ?_ ?_)
   | (with_reducible refine LeO.bind ?_ (fun _ => ?_))
   | exact ih0 _ _ _ _ _ _ _
   | exact ih1 _ _ _ _ _ _ _ _
   | exact ih2 _ _ _ _ _ _ _ _ _ _ _
   | exact impl_RangeOk.mono _ _
   | exact impl_ReadVersion.mono _ _
   | exact impl_compareTexts.mono _ _ _
   | exact LeO.none _
   | refine LeO.ite ?_ ?_
   | refine LeO.bind ?_ (fun _ => ?_)
  ·intro y0 y1 y2 y3 y4 y5 y6 y7
   unfold impl_In.l0
   repeat' first
   | (with_reducible exact ih0 _ _ _ _ _ _ _)
   | (with_reducible exact ih1 _ _ _ _ _ _ _ _)
   | (with_reducible exact ih2 _ _ _ _ _ _ _ _ _ _ _)
   | (with_reducible exact impl_RangeOk.mono _ _)
   | (with_reducible exact impl_ReadVersion.mono _ _)
   | (with_reducible exact impl_compareTexts.mono _ _ _)
   | (with_reducible exact LeO.refl _)
   | (with_reducible exact LeO.none _)
   | (with_reducible refine LeO.ite ?_ ?_)
   | (with_reducible refine LeO.bind ?_ (fun _ => ?_))
   | exact ih0 _ _ _ _ _ _ _
   | exact ih1 _ _ _ _ _ _ _ _
   | exact ih2 _ _ _ _ _ _ _ _ _ _ _
   | exact impl_RangeOk.mono _ _
   | exact impl_ReadVersion.mono _ _
   | exact impl_compareTexts.mono _ _ _
   | exact LeO.none _
   | refine LeO.ite ?_ ?_
   | refine LeO.bind ?_ (fun _ => ?_)
  ·intro y0 y1 y2 y3 y4 y5 y6 y7 y8 y9 y10
   unfold impl_In.j2
   repeat' first
   | (with_reducible exact ih0 _ _ _ _ _ _ _)
   | (with_reducible exact ih1 _ _ _ _ _ _ _ _)
   | (with_reducible exact ih2 _ _ _ _ _ _ _ _ _ _ _)
   | (with_reducible exact impl_RangeOk.mono _ _)
   | (with_reducible exact impl_ReadVersion.mono _ _)
   | (with_reducible exact impl_compareTexts.mono _ _ _)
   | (with_reducible exact LeO.refl _)
   | (with_reducible exact LeO.none _)
   | (with_reducible refine LeO.ite ?_ ?_)
   | (with_reducible refine LeO.bind ?_ (fun _ => ?_))
   | exact ih0 _ _ _ _ _ _ _
   | exact ih1 _ _ _ _ _ _ _ _
   | exact ih2 _ _ _ _ _ _ _ _ _ _ _
   | exact impl_RangeOk.mono _ _
   | exact impl_ReadVersion.mono _ _
   | exact impl_compareTexts.mono _ _ _
   | exact LeO.none _
   | refine LeO.ite ?_ ?_
   | refine LeO.bind ?_ (fun _ => ?_)
theorem impl_In.mono : ∀ a0 a1 k, LeO (impl_In.f k a0 a1) (impl_In.f (k + 1) a0 a1) := by
 intro a0 a1 k
 obtain ⟨ih0, ih1, ih2⟩ := impl_In.mono_l k
 unfold impl_In.f
 repeat' first
   | (with_reducible exact ih0 _ _ _ _ _ _ _)
   | (with_reducible exact ih1 _ _ _ _ _ _ _ _)
   | (with_reducible exact ih2 _ _ _ _ _ _ _ _ _ _ _)
   | (with_reducible exact impl_RangeOk.mono _ _)
   | (with_reducible exact impl_ReadVersion.mono _ _)
   | (with_reducible exact impl_compareTexts.mono _ _ _)
   | (with_reducible exact LeO.refl _)
   | (with_reducible exact LeO.none _)
   | (with_reducible refine LeO.ite ?_ ?_)
   | (with_reducible refine LeO.bind ?_ (fun _ => ?_))
   | exact ih0 _ _ _ _ _ _ _
   | exact ih1 _ _ _ _ _ _ _ _
   | exact ih2 _ _ _ _ _ _ _ _ _ _ _
   | exact impl_RangeOk.mono _ _
   | exact impl_ReadVersion.mono _ _
   | exact impl_compareTexts.mono _ _ _
   | exact LeO.none _
   | refine LeO.ite ?_ ?_
   | refine LeO.bind ?_ (fun _ => ?_)
end Go.Proofs.YtcfeihimmboghaaGreatDoor.G

end
section
namespace Go.Proofs.YtcfeihimmboghaaGreatDoor.G
open Go.RowKit Go.Proofs.YtcfeihimmboghaaGreatDoorW.PrintWords Go.Proofs.YtcfeihimmboghaaGreatDoorW.PrintLast Go.Proofs.YtcfeihimmboghaaGreatDoorW.PrintMore
set_option linter.unusedVariables false
set_option linter.unusedSimpArgs false
def impl_SortPre.l0 : Nat → List ByteArray → List ByteArray → Int → Int → Option (List ByteArray)
 | 0, _, _, _, _ => none
 | k + 1, x3, x7, x8, x9 => if x9 < x8 then (if 0 ≤ x9 then (if x9 < (x7.length : Int) then ((impl_isVersion.f k (rdOf ByteArray.empty x7 x9)).bind fun t1 => (if t1 = true then (if x3.length < 8796093022208 then (impl_SortPre.l0 k (x3 ++ [rdOf ByteArray.empty x7 x9]) x7 x8 (wrap64 (x9 + 1))) else (none)) else (impl_SortPre.l0 k x3 x7 x8 (wrap64 (x9 + 1))))) else (none)) else (none)) else (some x3)
def impl_SortPre.f (k : Nat) (l0 : List ByteArray) : Option (List ByteArray) := impl_SortPre.l0 k ([] : List ByteArray) l0 (l0.length : Int) 0
end Go.Proofs.YtcfeihimmboghaaGreatDoor.G

end
