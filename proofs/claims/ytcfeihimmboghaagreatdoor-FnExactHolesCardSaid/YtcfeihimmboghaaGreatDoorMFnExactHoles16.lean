/- A part of the proof that the law FnExactHoles answers true at every input that its row speaks of. Conditions: the row's own. -/
import Derived.Test.YtcfeihimmboghaaGreatDoorMFnExactHoles9
import Derived.Test.YtcfeihimmboghaaGreatDoorKFnExactHoles1
import Derived.Test.YtcfeihimmboghaaGreatDoorMFnExactHoles15
import Derived.Test.YtcfeihimmboghaaGreatDoorKFnExactHoles0
section
namespace Go.Proofs.YtcfeihimmboghaaGreatDoor.VI
open Go Go.RowKit Go.Proofs.YtcfeihimmboghaaGreatDoor.G Go.Proofs.YtcfeihimmboghaaGreatDoorW.PrintWords
set_option maxRecDepth 100000
set_option maxHeartbeats 16000000
attribute [local irreducible] bite obind vget
theorem spec_In.vi {k m : Nat} {Gv : FuncId → Option (List VV → Option (VV × List VV))} (hG : Base Gv) (hm : k + 9 ≤ m) (a0 : ByteArray) (l1 : List (S86)) : Im (fun r => (.bool r, [])) (spec_In.f k a0 l1) (callv Tryz.prog ti keep Gv m 27 [.str a0, .sl (l1.map e86)]) := by
  obtain ⟨m, rfl⟩ : ∃ m', m = m' + 1 := ⟨m - 1, by omega⟩
  rw [show callv Tryz.prog ti keep Gv (m + 1) 27 _ = _ from callv_enter ((hG 27 (by decide)).trans rfl) Tryz.func27 (by kernel_rfl) rfl rfl]
  unfold spec_In.f
  repeat' first
    | (with_reducible first | exact Im.none | refine Im.ite (fun h => ?_) (fun h => ?_) | refine Im.sbind ?_)
    | ((conv => arg 3; whnf); first
      | ((with_reducible refine Im.fin ?_); exact zr)
      | ((with_reducible refine Im.anyo ?_ ?_); (next => kernel_rfl))
      | ((with_reducible refine Im.bite_t ?_ ?_); (next => exact zq))
      | ((with_reducible refine Im.bite_f ?_ ?_); (next => exact zq))
      | ((with_reducible refine Im.bite_t ?_ ?_); (next => exact zd))
      | ((with_reducible refine Im.must ?_ ?_); (next => exact zd))
      | ((with_reducible refine Im.bite_f ?_ ?_); (next => exact zd))
      | (with_reducible refine Im.byl ?_)
      | ((with_reducible refine Im.vget ByteArray.empty ?_ ?_ ?_); (next => exact zd); (next => exact zd))
      | ((with_reducible refine Im.vget z86 ?_ ?_ ?_); (next => exact zd); (next => exact zd))
      | ((with_reducible refine Im.vget z133 ?_ ?_ ?_); (next => exact zd); (next => exact zd))
      | ((with_reducible refine Im.vget (0 : Int) ?_ ?_ ?_); (next => exact zd); (next => exact zd))
      | ((with_reducible refine Im.vget false ?_ ?_ ?_); (next => exact zd); (next => exact zd))
      | ((with_reducible refine Im.call (spec_RangeOk.vi hG ?_ _) ?_ (fun r hr => ?_)); (next => omega); (next => exact zr))
      | ((with_reducible refine Im.call (spec_ReadVersion.vi hG ?_ _) ?_ (fun r hr => ?_)); (next => omega); (next => exact zr))
      | ((with_reducible refine Im.call (spec_l03Takes.vi hG ?_ _ _ _ _ _ _) ?_ (fun r hr => ?_)); (next => omega); (next => exact zr))
      | ((with_reducible refine Im.loop (S := fun s : List (S86) × Bool × Int × Int × Int × Int × List ByteArray => [.un, .sl (s.1.map e86), .un, .un, .un, .bx [.int s.2.2.2.1, .int s.2.2.2.2.1, .int s.2.2.2.2.2.1, .sl (s.2.2.2.2.2.2.map VV.str)], .bool s.2.1, .int s.2.2.1, .un, .un, .un, .un, .un, .un, .un, .un, .un, .un, .un, .un, .un, .un, .un, .un, .un, .un, .un, .un, .un, .un, .un, .un]) (L := fun k s => spec_In.l0 k s.1 s.2.1 s.2.2.1 s.2.2.2.1 s.2.2.2.2.1 s.2.2.2.2.2.1 s.2.2.2.2.2.2) _ ?_ ?_ _ _ ⟨_, _, _, _, _, _, _⟩ _ (Nat.le_refl _) zo ?_)
         (next => intro s; rfl)
         (next =>
           intro k1 M1 ⟨x1, x6, x7, x350000, x350001, x350002, x350003⟩ hk1 hM1 ih1
           conv => arg 2; simp only [spec_In.l0]
           repeat' first
             | (with_reducible first | exact Im.none | refine Im.ite (fun h => ?_) (fun h => ?_) | refine Im.sbind ?_)
             | ((conv => arg 3; whnf); first
               | ((with_reducible refine Im.fin ?_); exact zr)
               | ((with_reducible refine Im.anyo ?_ ?_); (next => kernel_rfl))
               | ((with_reducible refine Im.bite_t ?_ ?_); (next => exact zq))
               | ((with_reducible refine Im.bite_f ?_ ?_); (next => exact zq))
               | ((with_reducible refine Im.bite_t ?_ ?_); (next => exact zd))
               | ((with_reducible refine Im.must ?_ ?_); (next => exact zd))
               | ((with_reducible refine Im.bite_f ?_ ?_); (next => exact zd))
               | (with_reducible refine Im.byl ?_)
               | ((with_reducible refine Im.vget ByteArray.empty ?_ ?_ ?_); (next => exact zd); (next => exact zd))
               | ((with_reducible refine Im.vget z86 ?_ ?_ ?_); (next => exact zd); (next => exact zd))
               | ((with_reducible refine Im.vget z133 ?_ ?_ ?_); (next => exact zd); (next => exact zd))
               | ((with_reducible refine Im.vget (0 : Int) ?_ ?_ ?_); (next => exact zd); (next => exact zd))
               | ((with_reducible refine Im.vget false ?_ ?_ ?_); (next => exact zd); (next => exact zd))
               | ((with_reducible refine Im.call (spec_RangeOk.vi hG ?_ _) ?_ (fun r hr => ?_)); (next => omega); (next => exact zr))
               | ((with_reducible refine Im.call (spec_ReadVersion.vi hG ?_ _) ?_ (fun r hr => ?_)); (next => omega); (next => exact zr))
               | ((with_reducible refine Im.call (spec_l03Takes.vi hG ?_ _ _ _ _ _ _) ?_ (fun r hr => ?_)); (next => omega); (next => exact zr))
               | ((with_reducible refine ih1 _ ⟨_, _, _, _, _, _, _⟩ _ ?_ ?_); (next => exact zo); exact zr)
               | exact zm | exact zx | fail)
           all_goals skip)
         exact zr)
      | exact zm | exact zx | fail)
  all_goals skip
theorem spec_SortVersions.vi {k m : Nat} {Gv : FuncId → Option (List VV → Option (VV × List VV))} (hG : Base Gv) (hm : k + 7 ≤ m) (l0 : List ByteArray) : Im (fun r => (.ow 9 1 (r.map VV.str), [])) (spec_SortVersions.f k l0) (callv Tryz.prog ti keep Gv m 69 [.sl (l0.map VV.str)]) := by
  obtain ⟨m, rfl⟩ : ∃ m', m = m' + 1 := ⟨m - 1, by omega⟩
  rw [show callv Tryz.prog ti keep Gv (m + 1) 69 _ = _ from callv_enter ((hG 69 (by decide)).trans rfl) Tryz.func69 (by kernel_rfl) rfl rfl]
  unfold spec_SortVersions.f
  repeat' first
    | (with_reducible first | exact Im.none | refine Im.ite (fun h => ?_) (fun h => ?_) | refine Im.sbind ?_)
    | ((conv => arg 3; whnf); first
      | ((with_reducible refine Im.fin ?_); exact zr)
      | ((with_reducible refine Im.anyo ?_ ?_); (next => kernel_rfl))
      | ((with_reducible refine Im.bite_t ?_ ?_); (next => exact zq))
      | ((with_reducible refine Im.bite_f ?_ ?_); (next => exact zq))
      | ((with_reducible refine Im.bite_t ?_ ?_); (next => exact zd))
      | ((with_reducible refine Im.must ?_ ?_); (next => exact zd))
      | ((with_reducible refine Im.bite_f ?_ ?_); (next => exact zd))
      | (with_reducible refine Im.byl ?_)
      | ((with_reducible refine Im.vget ByteArray.empty ?_ ?_ ?_); (next => exact zd); (next => exact zd))
      | ((with_reducible refine Im.vget z86 ?_ ?_ ?_); (next => exact zd); (next => exact zd))
      | ((with_reducible refine Im.vget z133 ?_ ?_ ?_); (next => exact zd); (next => exact zd))
      | ((with_reducible refine Im.vget (0 : Int) ?_ ?_ ?_); (next => exact zd); (next => exact zd))
      | ((with_reducible refine Im.vget false ?_ ?_ ?_); (next => exact zd); (next => exact zd))
      | ((with_reducible refine Im.call (spec_CompareVersion.vi hG ?_ _ _ _ _ _ _ _ _) ?_ (fun r hr => ?_)); (next => omega); (next => exact zr))
      | ((with_reducible refine Im.call (spec_ReadVersion.vi hG ?_ _) ?_ (fun r hr => ?_)); (next => omega); (next => exact zr))
      | ((with_reducible refine Im.loop (S := fun s : List ByteArray × List ByteArray × Int => [.sl (s.1.map VV.str), .un, .un, .ow 9 1 (s.2.1.map VV.str), .int s.2.2, .un, .un, .un, .un, .un, .un, .un, .un, .un, .un, .un, .un, .un, .un, .un, .un, .un, .un, .un, .un, .un, .un, .un, .un, .un, .un, .un, .un, .un, .un, .un, .un, .un, .un, .un, .un, .un, .un, .un, .un, .un, .un, .un, .un, .un, .un, .un, .un, .un, .un, .un, .un, .un, .un, .un, .un, .un, .un, .un, .un, .un, .un, .un, .un, .un, .un, .un, .un, .un, .un, .un]) (L := fun k s => spec_SortVersions.l0 k s.1 s.2.1 s.2.2) _ ?_ ?_ _ _ ⟨_, _, _⟩ _ (Nat.le_refl _) zo ?_)
         (next => intro s; rfl)
         (next =>
           intro k1 M1 ⟨x0, x3, x4⟩ hk1 hM1 ih1
           conv => arg 2; simp only [spec_SortVersions.l0]
           repeat' first
             | (with_reducible first | exact Im.none | refine Im.ite (fun h => ?_) (fun h => ?_) | refine Im.sbind ?_)
             | ((conv => arg 3; whnf); first
               | ((with_reducible refine Im.fin ?_); exact zr)
               | ((with_reducible refine Im.anyo ?_ ?_); (next => kernel_rfl))
               | ((with_reducible refine Im.bite_t ?_ ?_); (next => exact zq))
               | ((with_reducible refine Im.bite_f ?_ ?_); (next => exact zq))
               | ((with_reducible refine Im.bite_t ?_ ?_); (next => exact zd))
               | ((with_reducible refine Im.must ?_ ?_); (next => exact zd))
               | ((with_reducible refine Im.bite_f ?_ ?_); (next => exact zd))
               | (with_reducible refine Im.byl ?_)
               | ((with_reducible refine Im.vget ByteArray.empty ?_ ?_ ?_); (next => exact zd); (next => exact zd))
               | ((with_reducible refine Im.vget z86 ?_ ?_ ?_); (next => exact zd); (next => exact zd))
               | ((with_reducible refine Im.vget z133 ?_ ?_ ?_); (next => exact zd); (next => exact zd))
               | ((with_reducible refine Im.vget (0 : Int) ?_ ?_ ?_); (next => exact zd); (next => exact zd))
               | ((with_reducible refine Im.vget false ?_ ?_ ?_); (next => exact zd); (next => exact zd))
               | ((with_reducible refine Im.call (spec_CompareVersion.vi hG ?_ _ _ _ _ _ _ _ _) ?_ (fun r hr => ?_)); (next => omega); (next => exact zr))
               | ((with_reducible refine Im.call (spec_ReadVersion.vi hG ?_ _) ?_ (fun r hr => ?_)); (next => omega); (next => exact zr))
               | ((with_reducible refine ih1 _ ⟨_, _, _⟩ _ ?_ ?_); (next => exact zo); exact zr)
               | ((with_reducible refine Im.loop (S := fun s : List ByteArray × List ByteArray × Int × Int × Int × Int × Int × List ByteArray => [.sl (s.1.map VV.str), .un, .un, .ow 9 1 (s.2.1.map VV.str), .int s.2.2.1, .bx [.int s.2.2.2.2.1, .int s.2.2.2.2.2.1, .int s.2.2.2.2.2.2.1, .sl (s.2.2.2.2.2.2.2.map VV.str)], .un, .int s.2.2.2.1, .un, .un, .un, .un, .un, .un, .un, .un, .un, .un, .un, .un, .un, .un, .un, .un, .un, .un, .un, .un, .un, .un, .un, .un, .un, .un, .un, .un, .un, .un, .un, .un, .un, .un, .un, .un, .un, .un, .un, .un, .un, .un, .un, .un, .un, .un, .un, .un, .un, .un, .un, .un, .un, .un, .un, .un, .un, .un, .un, .un, .un, .un, .un, .un, .un, .un, .un, .un]) (L := fun k s => spec_SortVersions.l1 k s.1 s.2.1 s.2.2.1 s.2.2.2.1 s.2.2.2.2.1 s.2.2.2.2.2.1 s.2.2.2.2.2.2.1 s.2.2.2.2.2.2.2) _ ?_ ?_ _ _ ⟨_, _, _, _, _, _, _, _⟩ _ (Nat.le_refl _) zo ?_)
                  (next => intro s; rfl)
                  (next =>
                    intro k2 M2 ⟨x0, x3, x4, x7, x900000, x900001, x900002, x900003⟩ hk2 hM2 ih2
                    conv => arg 2; simp only [spec_SortVersions.l1]
                    repeat' first
                      | ((with_reducible refine Im.nat (fun k => spec_SortVersions.j1 k _ _ _ _) _ ?_ (fun kj hkj => ?_)); (next => rfl); (conv => arg 2; simp only [spec_SortVersions.j1, Bool.false_eq_true, reduceIte]))
                      | (with_reducible first | exact Im.none | refine Im.ite (fun h => ?_) (fun h => ?_) | refine Im.sbind ?_)
                      | ((conv => arg 3; whnf); first
                        | ((with_reducible refine Im.fin ?_); exact zr)
                        | ((with_reducible refine Im.anyo ?_ ?_); (next => kernel_rfl))
                        | ((with_reducible refine Im.bite_t ?_ ?_); (next => exact zq))
                        | ((with_reducible refine Im.bite_f ?_ ?_); (next => exact zq))
                        | ((with_reducible refine Im.bite_t ?_ ?_); (next => exact zd))
                        | ((with_reducible refine Im.must ?_ ?_); (next => exact zd))
                        | ((with_reducible refine Im.bite_f ?_ ?_); (next => exact zd))
                        | (with_reducible refine Im.byl ?_)
                        | ((with_reducible refine Im.vget ByteArray.empty ?_ ?_ ?_); (next => exact zd); (next => exact zd))
                        | ((with_reducible refine Im.vget z86 ?_ ?_ ?_); (next => exact zd); (next => exact zd))
                        | ((with_reducible refine Im.vget z133 ?_ ?_ ?_); (next => exact zd); (next => exact zd))
                        | ((with_reducible refine Im.vget (0 : Int) ?_ ?_ ?_); (next => exact zd); (next => exact zd))
                        | ((with_reducible refine Im.vget false ?_ ?_ ?_); (next => exact zd); (next => exact zd))
                        | ((with_reducible refine Im.call (spec_CompareVersion.vi hG ?_ _ _ _ _ _ _ _ _) ?_ (fun r hr => ?_)); (next => omega); (next => exact zr))
                        | ((with_reducible refine Im.call (spec_ReadVersion.vi hG ?_ _) ?_ (fun r hr => ?_)); (next => omega); (next => exact zr))
                        | ((with_reducible refine ih1 _ ⟨_, _, _⟩ _ ?_ ?_); (next => exact zo); exact zr)
                        | ((with_reducible refine ih2 _ ⟨_, _, _, _, _, _, _, _⟩ _ ?_ ?_); (next => exact zo); exact zr)
                        | exact zm | exact zx | fail)
                    all_goals skip)
                  exact zr)
               | exact zm | exact zx | fail)
           all_goals skip)
         exact zr)
      | exact zm | exact zx | fail)
  all_goals skip
theorem spec_Holes.vi {k m : Nat} {Gv : FuncId → Option (List VV → Option (VV × List VV))} (hG : Base Gv) (hm : k + 10 ≤ m) (l0 : List ByteArray) (l1 : List (S86)) : Im (fun r => (.ow 9 1 (r.map VV.str), [])) (spec_Holes.f k l0 l1) (callv Tryz.prog ti keep Gv m 84 [.sl (l0.map VV.str), .sl (l1.map e86)]) := by
  obtain ⟨m, rfl⟩ : ∃ m', m = m' + 1 := ⟨m - 1, by omega⟩
  rw [show callv Tryz.prog ti keep Gv (m + 1) 84 _ = _ from callv_enter ((hG 84 (by decide)).trans rfl) Tryz.func84 (by kernel_rfl) rfl rfl]
  unfold spec_Holes.f
  repeat' first
    | (with_reducible first | exact Im.none | refine Im.ite (fun h => ?_) (fun h => ?_) | refine Im.sbind ?_)
    | ((conv => arg 3; whnf); first
      | ((with_reducible refine Im.fin ?_); exact zr)
      | ((with_reducible refine Im.anyo ?_ ?_); (next => kernel_rfl))
      | ((with_reducible refine Im.bite_t ?_ ?_); (next => exact zq))
      | ((with_reducible refine Im.bite_f ?_ ?_); (next => exact zq))
      | ((with_reducible refine Im.bite_t ?_ ?_); (next => exact zd))
      | ((with_reducible refine Im.must ?_ ?_); (next => exact zd))
      | ((with_reducible refine Im.bite_f ?_ ?_); (next => exact zd))
      | (with_reducible refine Im.byl ?_)
      | ((with_reducible refine Im.vget ByteArray.empty ?_ ?_ ?_); (next => exact zd); (next => exact zd))
      | ((with_reducible refine Im.vget z86 ?_ ?_ ?_); (next => exact zd); (next => exact zd))
      | ((with_reducible refine Im.vget z133 ?_ ?_ ?_); (next => exact zd); (next => exact zd))
      | ((with_reducible refine Im.vget (0 : Int) ?_ ?_ ?_); (next => exact zd); (next => exact zd))
      | ((with_reducible refine Im.vget false ?_ ?_ ?_); (next => exact zd); (next => exact zd))
      | ((with_reducible refine Im.call (spec_In.vi hG ?_ _ _) ?_ (fun r hr => ?_)); (next => omega); (next => exact zr))
      | ((with_reducible refine Im.call (spec_SortVersions.vi hG ?_ _) ?_ (fun r hr => ?_)); (next => omega); (next => exact zr))
      | ((with_reducible refine Im.loop (S := fun s : List (S86) × List ByteArray × Int × Int × Int => [.un, .sl (s.1.map e86), .un, .un, .un, .ow 9 1 (s.2.1.map VV.str), .int s.2.2.1, .int s.2.2.2.1, .int s.2.2.2.2, .un, .un, .un, .un, .un, .un, .un, .un, .un, .un, .un, .un, .un, .un, .un, .un, .un, .un, .un, .un, .un, .un, .un, .un, .un, .un, .un, .un, .un, .un, .un, .un, .un, .un, .un, .un, .un, .un, .un, .un, .un, .un, .un, .un, .un]) (L := fun k s => spec_Holes.l0 k s.1 s.2.1 s.2.2.1 s.2.2.2.1 s.2.2.2.2) _ ?_ ?_ _ _ ⟨_, _, _, _, _⟩ _ (Nat.le_refl _) zo ?_)
         (next => intro s; rfl)
         (next =>
           intro k1 M1 ⟨x1, x5, x6, x7, x8⟩ hk1 hM1 ih1
           conv => arg 2; simp only [spec_Holes.l0]
           repeat' first
             | (with_reducible first | exact Im.none | refine Im.ite (fun h => ?_) (fun h => ?_) | refine Im.sbind ?_)
             | ((conv => arg 3; whnf); first
               | ((with_reducible refine Im.fin ?_); exact zr)
               | ((with_reducible refine Im.anyo ?_ ?_); (next => kernel_rfl))
               | ((with_reducible refine Im.bite_t ?_ ?_); (next => exact zq))
               | ((with_reducible refine Im.bite_f ?_ ?_); (next => exact zq))
               | ((with_reducible refine Im.bite_t ?_ ?_); (next => exact zd))
               | ((with_reducible refine Im.must ?_ ?_); (next => exact zd))
               | ((with_reducible refine Im.bite_f ?_ ?_); (next => exact zd))
               | (with_reducible refine Im.byl ?_)
               | ((with_reducible refine Im.vget ByteArray.empty ?_ ?_ ?_); (next => exact zd); (next => exact zd))
               | ((with_reducible refine Im.vget z86 ?_ ?_ ?_); (next => exact zd); (next => exact zd))
               | ((with_reducible refine Im.vget z133 ?_ ?_ ?_); (next => exact zd); (next => exact zd))
               | ((with_reducible refine Im.vget (0 : Int) ?_ ?_ ?_); (next => exact zd); (next => exact zd))
               | ((with_reducible refine Im.vget false ?_ ?_ ?_); (next => exact zd); (next => exact zd))
               | ((with_reducible refine Im.call (spec_In.vi hG ?_ _ _) ?_ (fun r hr => ?_)); (next => omega); (next => exact zr))
               | ((with_reducible refine Im.call (spec_SortVersions.vi hG ?_ _) ?_ (fun r hr => ?_)); (next => omega); (next => exact zr))
               | ((with_reducible refine ih1 _ ⟨_, _, _, _, _⟩ _ ?_ ?_); (next => exact zo); exact zr)
               | ((with_reducible refine Im.loop (S := fun s : List (S86) × List ByteArray × Int × List ByteArray × Int => [.un, .sl (s.1.map e86), .un, .un, .un, .ow 9 1 (s.2.1.map VV.str), .un, .int s.2.2.1, .un, .ow 9 1 (s.2.2.2.1.map VV.str), .int s.2.2.2.2, .un, .un, .un, .un, .un, .un, .un, .un, .un, .un, .un, .un, .un, .un, .un, .un, .un, .un, .un, .un, .un, .un, .un, .un, .un, .un, .un, .un, .un, .un, .un, .un, .un, .un, .un, .un, .un, .un, .un, .un, .un, .un, .un]) (L := fun k s => spec_Holes.l1 k s.1 s.2.1 s.2.2.1 s.2.2.2.1 s.2.2.2.2) _ ?_ ?_ _ _ ⟨_, _, _, _, _⟩ _ (Nat.le_refl _) zo ?_)
                  (next => intro s; rfl)
                  (next =>
                    intro k2 M2 ⟨x1, x5, x7, x9, x10⟩ hk2 hM2 ih2
                    conv => arg 2; simp only [spec_Holes.l1]
                    repeat' first
                      | (with_reducible first | exact Im.none | refine Im.ite (fun h => ?_) (fun h => ?_) | refine Im.sbind ?_)
                      | ((conv => arg 3; whnf); first
                        | ((with_reducible refine Im.fin ?_); exact zr)
                        | ((with_reducible refine Im.anyo ?_ ?_); (next => kernel_rfl))
                        | ((with_reducible refine Im.bite_t ?_ ?_); (next => exact zq))
                        | ((with_reducible refine Im.bite_f ?_ ?_); (next => exact zq))
                        | ((with_reducible refine Im.bite_t ?_ ?_); (next => exact zd))
                        | ((with_reducible refine Im.must ?_ ?_); (next => exact zd))
                        | ((with_reducible refine Im.bite_f ?_ ?_); (next => exact zd))
                        | (with_reducible refine Im.byl ?_)
                        | ((with_reducible refine Im.vget ByteArray.empty ?_ ?_ ?_); (next => exact zd); (next => exact zd))
                        | ((with_reducible refine Im.vget z86 ?_ ?_ ?_); (next => exact zd); (next => exact zd))
                        | ((with_reducible refine Im.vget z133 ?_ ?_ ?_); (next => exact zd); (next => exact zd))
                        | ((with_reducible refine Im.vget (0 : Int) ?_ ?_ ?_); (next => exact zd); (next => exact zd))
                        | ((with_reducible refine Im.vget false ?_ ?_ ?_); (next => exact zd); (next => exact zd))
                        | ((with_reducible refine Im.call (spec_In.vi hG ?_ _ _) ?_ (fun r hr => ?_)); (next => omega); (next => exact zr))
                        | ((with_reducible refine Im.call (spec_SortVersions.vi hG ?_ _) ?_ (fun r hr => ?_)); (next => omega); (next => exact zr))
                        | ((with_reducible refine ih2 _ ⟨_, _, _, _, _⟩ _ ?_ ?_); (next => exact zo); exact zr)
                        | exact zm | exact zx | fail)
                    all_goals skip)
                  exact zr)
               | exact zm | exact zx | fail)
           all_goals skip)
         exact zr)
      | exact zm | exact zx | fail)
  all_goals skip
end Go.Proofs.YtcfeihimmboghaaGreatDoor.VI

end
section
namespace Go.Proofs.YtcfeihimmboghaaGreatDoor.G
open Go Go.RowKit Go.Proofs.YtcfeihimmboghaaGreatDoorW.PrintWords Go.Proofs.YtcfeihimmboghaaGreatDoor.VI
set_option maxRecDepth 100000
set_option linter.unusedVariables false
set_option linter.unusedSimpArgs false
theorem spec_Holes.calls (k : Nat) (A0 : Option Addr) (c0 : Nat) (l0 : List ByteArray) (A1 : Option Addr) (c1 : Nat) (l1 : List (S86)) (r : List ByteArray) (w : World) (hr0 : Kd.C Kd.string w A0 l0.length l0) (hc0 : l0.length ≤ c0) (hr1 : Kd.C k86 w A1 l1.length l1) (hc1 : l1.length ≤ c1) (hGE : Glob FactE w) (hGM : Glob FactM w) (hGT : Glob FactT w) (h : spec_Holes.f k l0 l1 = some r) :
  Calls Tryz.prog 84 #[.slice A0 l0.length c0, .slice A1 l1.length c1] w fun e w' => ∃ v0_ : Value, e = .returned (v0_) ∧ Kd.R Kd.string 9 w' w.heap.size (fun _ => True) v0_ r ∧ Below w.heap.size w w' := by
  have gws : ∀ a b, Below w.heap.size w a → Below w.heap.size a b → Below w.heap.size w b := fun a b h1 h2 => h1.trans h2
  have hok := callv_ok (P := Tryz.prog) (NG := w.heap.size) (GW := fun a => Below w.heap.size w a) VI.hti gws (keep := keep) (Gv := Gv0) (given_ok0 hGE hGM hGT) (fun C hC hc => any_sound (by kernel_rfl) (by rw [hC]; exact VI.hti) gws hc) (k + 10)
  exact CallOk1.callsR (hok 84 _ _ rfl (spec_Holes.vi (k := k) (m := k + 10) base0 (Nat.le_refl _) l0 l1 _ h)) (Below.refl _ _) (Nat.le_refl _) (.cons _ _ _ _ (dr_row (enc := VV.str) kv_string hc0 hr0) (.cons _ _ _ _ (dr_row (enc := e86) kv86 hc1 hr1) .nil))
end Go.Proofs.YtcfeihimmboghaaGreatDoor.G

end
