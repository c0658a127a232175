/- A part of the proof that the law FnSort answers true at every input that its row speaks of. Conditions: the row's own. -/
import Derived.Test.YtcfeihimmboghaaGreatDoorMFnSort8
import Derived.Test.YtcfeihimmboghaaGreatDoorKFnSort2
import Derived.Test.YtcfeihimmboghaaGreatDoorMFnSort9
import Derived.Test.YtcfeihimmboghaaGreatDoorKFnSort1
import Derived.Calls
import GoSem.Step
import Derived.Test.YtcfeihimmboghaaGreatDoorMFnSort2
import Derived.Sort.OwnSorted
import Derived.WalkKit
section
namespace Go.Proofs.YtcfeihimmboghaaGreatDoor.VI
open Go Go.RowKit Go.Proofs.YtcfeihimmboghaaGreatDoor.G Go.Proofs.YtcfeihimmboghaaGreatDoorW.PrintWords
set_option maxRecDepth 100000
set_option maxHeartbeats 1000000
noncomputable def code20 : Code := match Tryz.f71.body with
  | some c => c
  | none => .skip
def sL : Code → Code
  | .seq a _ => a
  | c => c
def sR : Code → Code
  | .seq _ b => b
  | c => c
noncomputable def pre3 (C : Cx) (kp : Nat → Option (List Nat)) (env : Env) : Option VV := run C kp (sL code20) 0 env fun e e1 => match e with
  | .normal => run C kp (sL (sR code20)) 0 e1 fun e e2 => (match e with
    | .normal => run C kp (sL (sR (sR code20))) 0 e2 fun e e3 => (match e with
      | .normal => must (Nat.beq e3.length 24) (some (get e3 3))
      | _ => none)
    | _ => none)
  | _ => none
section
attribute [local irreducible] bite obind vget
theorem impl_SortPre.run {k m : Nat} (hm : k + 9 ≤ m) (l0 : List ByteArray) : Im (fun r => VV.ow 9 1 (r.map VV.str)) (impl_SortPre.f k l0) (pre3 ⟨ti, callv Tryz.prog ti keep Gv0 m, m⟩ (keep 71) (start Tryz.f71 [.sl (l0.map VV.str)])) := by
  unfold impl_SortPre.f pre3
  repeat' first
    | (with_reducible first | exact Im.none | refine Im.ite (fun h => ?_) (fun h => ?_) | refine Im.sbind ?_)
    | ((conv => arg 3; whnf); first
      | ((with_reducible refine Im.fin ?_); exact zr)
      | ((with_reducible refine Im.anyo ?_ ?_); (next => kernel_rfl))
      | ((with_reducible refine Im.bite_t ?_ ?_); (next => exact zq))
      | ((with_reducible refine Im.bite_f ?_ ?_); (next => exact zq))
      | ((with_reducible refine Im.bite_t ?_ ?_); (next => exact zd))
      | ((with_reducible refine Im.must ?_ ?_); (next => exact zd))
      | ((with_reducible refine Im.bite_f ?_ ?_); (next => exact zd))
      | (with_reducible refine Im.byl ?_)
      | ((with_reducible refine Im.vget ByteArray.empty ?_ ?_ ?_); (next => exact zd); (next => exact zd))
      | ((with_reducible refine Im.vget z86 ?_ ?_ ?_); (next => exact zd); (next => exact zd))
      | ((with_reducible refine Im.vget z133 ?_ ?_ ?_); (next => exact zd); (next => exact zd))
      | ((with_reducible refine Im.vget (0 : Int) ?_ ?_ ?_); (next => exact zd); (next => exact zd))
      | ((with_reducible refine Im.vget false ?_ ?_ ?_); (next => exact zd); (next => exact zd))
      | ((with_reducible refine Im.call (impl_isVersion.vi base0 ?_ _) ?_ (fun r hr => ?_)); (next => omega); (next => exact zr))
      | ((with_reducible refine Im.loop (S := fun s : List ByteArray × List ByteArray × Int × Int => [.un, .un, .un, .ow 9 1 (s.1.map VV.str), .un, .un, .un, .sl (s.2.1.map VV.str), .int s.2.2.1, .int s.2.2.2, .un, .un, .un, .un, .un, .un, .un, .un, .un, .un, .un, .un, .un, .un]) (L := fun k s => impl_SortPre.l0 k s.1 s.2.1 s.2.2.1 s.2.2.2) _ ?_ ?_ _ _ ⟨_, _, _, _⟩ _ (Nat.le_refl _) zo ?_)
         (next => intro s; rfl)
         (next =>
           intro k1 M1 ⟨x3, x7, x8, x9⟩ hk1 hM1 ih1
           conv => arg 2; simp only [impl_SortPre.l0]
           repeat' first
             | (with_reducible first | exact Im.none | refine Im.ite (fun h => ?_) (fun h => ?_) | refine Im.sbind ?_)
             | ((conv => arg 3; whnf); first
               | ((with_reducible refine Im.fin ?_); exact zr)
               | ((with_reducible refine Im.anyo ?_ ?_); (next => kernel_rfl))
               | ((with_reducible refine Im.bite_t ?_ ?_); (next => exact zq))
               | ((with_reducible refine Im.bite_f ?_ ?_); (next => exact zq))
               | ((with_reducible refine Im.bite_t ?_ ?_); (next => exact zd))
               | ((with_reducible refine Im.must ?_ ?_); (next => exact zd))
               | ((with_reducible refine Im.bite_f ?_ ?_); (next => exact zd))
               | (with_reducible refine Im.byl ?_)
               | ((with_reducible refine Im.vget ByteArray.empty ?_ ?_ ?_); (next => exact zd); (next => exact zd))
               | ((with_reducible refine Im.vget z86 ?_ ?_ ?_); (next => exact zd); (next => exact zd))
               | ((with_reducible refine Im.vget z133 ?_ ?_ ?_); (next => exact zd); (next => exact zd))
               | ((with_reducible refine Im.vget (0 : Int) ?_ ?_ ?_); (next => exact zd); (next => exact zd))
               | ((with_reducible refine Im.vget false ?_ ?_ ?_); (next => exact zd); (next => exact zd))
               | ((with_reducible refine Im.call (impl_isVersion.vi base0 ?_ _) ?_ (fun r hr => ?_)); (next => omega); (next => exact zr))
               | ((with_reducible refine ih1 _ ⟨_, _, _, _⟩ _ ?_ ?_); (next => exact zo); exact zr)
               | exact zm | exact zx | fail)
           all_goals skip)
         exact zr)
      | exact zm | exact zx | fail)
  all_goals skip
end
end Go.Proofs.YtcfeihimmboghaaGreatDoor.VI

end
section
namespace Go.Proofs.YtcfeihimmboghaaGreatDoor.VI
open Go Go.RowKit Go.Proofs.YtcfeihimmboghaaGreatDoor.G Go.Proofs.YtcfeihimmboghaaGreatDoorW.PrintWords
set_option maxRecDepth 100000
set_option maxHeartbeats 16000000
attribute [local irreducible] bite obind vget
theorem impl_compareInts.vi {m : Nat} {Gv : FuncId → Option (List VV → Option (VV × List VV))} (hG : Base Gv) (hm : 1 ≤ m) (a0 : Int) (a1 : Int) : Im (fun r => (.int r, [])) (impl_compareInts.f a0 a1) (callv Tryz.prog ti keep Gv m 155 [.int a0, .int a1]) := by
  obtain ⟨m, rfl⟩ : ∃ m', m = m' + 1 := ⟨m - 1, by omega⟩
  rw [show callv Tryz.prog ti keep Gv (m + 1) 155 _ = _ from callv_enter ((hG 155 (by decide) (by decide) (by decide)).trans rfl) Tryz.func155 (by kernel_rfl) rfl rfl]
  unfold impl_compareInts.f
  repeat' first
    | (with_reducible first | exact Im.none | refine Im.ite (fun h => ?_) (fun h => ?_) | refine Im.sbind ?_)
    | ((conv => arg 3; whnf); first
      | ((with_reducible refine Im.fin ?_); exact zr)
      | ((with_reducible refine Im.anyo ?_ ?_); (next => kernel_rfl))
      | ((with_reducible refine Im.bite_t ?_ ?_); (next => exact zq))
      | ((with_reducible refine Im.bite_f ?_ ?_); (next => exact zq))
      | ((with_reducible refine Im.bite_t ?_ ?_); (next => exact zd))
      | ((with_reducible refine Im.must ?_ ?_); (next => exact zd))
      | ((with_reducible refine Im.bite_f ?_ ?_); (next => exact zd))
      | (with_reducible refine Im.byl ?_)
      | ((with_reducible refine Im.vget ByteArray.empty ?_ ?_ ?_); (next => exact zd); (next => exact zd))
      | ((with_reducible refine Im.vget z86 ?_ ?_ ?_); (next => exact zd); (next => exact zd))
      | ((with_reducible refine Im.vget z133 ?_ ?_ ?_); (next => exact zd); (next => exact zd))
      | ((with_reducible refine Im.vget (0 : Int) ?_ ?_ ?_); (next => exact zd); (next => exact zd))
      | ((with_reducible refine Im.vget false ?_ ?_ ?_); (next => exact zd); (next => exact zd))
      | exact zm | exact zx | fail)
  all_goals skip
end Go.Proofs.YtcfeihimmboghaaGreatDoor.VI

end
section
namespace Go.Proofs.YtcfeihimmboghaaGreatDoor.VI
open Go Go.RowKit Go.Proofs.YtcfeihimmboghaaGreatDoor.G Go.Proofs.YtcfeihimmboghaaGreatDoorW.PrintWords
set_option maxRecDepth 100000
set_option maxHeartbeats 16000000
theorem strings_Compare.vi {m : Nat} {Gv : FuncId → Option (List VV → Option (VV × List VV))} (hG : Base Gv) (hm : 1 ≤ m) (a0 : ByteArray) (a1 : ByteArray) : Im (fun r => (.int r, [])) (strings_Compare.f a0 a1) (callv Tryz.prog ti keep Gv m 210 [.str a0, .str a1]) := by
  obtain ⟨m, rfl⟩ : ∃ m', m = m' + 1 := ⟨m - 1, by omega⟩
  rw [show callv Tryz.prog ti keep Gv (m + 1) 210 _ = _ from callv_given ((hG 210 (by decide) (by decide) (by decide)).trans rfl)]
  intro r h
  rw [show strings_Compare.gv [.str a0, .str a1] = (strings_Compare.f a0 a1).map (fun r => (.int r, [])) from rfl, h]
  rfl
theorem strings_TrimLeft.vi {m : Nat} {Gv : FuncId → Option (List VV → Option (VV × List VV))} (hG : Base Gv) (hm : 1 ≤ m) (a0 : ByteArray) (a1 : ByteArray) : Im (fun r => (.str r, [])) (strings_TrimLeft.f a0 a1) (callv Tryz.prog ti keep Gv m 123 [.str a0, .str a1]) := by
  obtain ⟨m, rfl⟩ : ∃ m', m = m' + 1 := ⟨m - 1, by omega⟩
  rw [show callv Tryz.prog ti keep Gv (m + 1) 123 _ = _ from callv_given ((hG 123 (by decide) (by decide) (by decide)).trans rfl)]
  intro r h
  rw [show strings_TrimLeft.gv [.str a0, .str a1] = (strings_TrimLeft.f a0 a1).map (fun r => (.str r, [])) from rfl, h]
  rfl
end Go.Proofs.YtcfeihimmboghaaGreatDoor.VI

end
section
namespace Go.Proofs.YtcfeihimmboghaaGreatDoor.VI
open Go Go.RowKit Go.Proofs.YtcfeihimmboghaaGreatDoor.G Go.Proofs.YtcfeihimmboghaaGreatDoorW.PrintWords
set_option maxRecDepth 100000
set_option maxHeartbeats 16000000
attribute [local irreducible] bite obind vget
theorem impl_comparePre.vi {k m : Nat} {Gv : FuncId → Option (List VV → Option (VV × List VV))} (hG : Base Gv) (hm : k + 4 ≤ m) (a0 : ByteArray) (a1 : ByteArray) : Im (fun r => (.int r, [])) (impl_comparePre.f k a0 a1) (callv Tryz.prog ti keep Gv m 156 [.str a0, .str a1]) := by
  obtain ⟨m, rfl⟩ : ∃ m', m = m' + 1 := ⟨m - 1, by omega⟩
  rw [show callv Tryz.prog ti keep Gv (m + 1) 156 _ = _ from callv_enter ((hG 156 (by decide) (by decide) (by decide)).trans rfl) Tryz.func156 (by kernel_rfl) rfl rfl]
  unfold impl_comparePre.f
  repeat' first
    | ((with_reducible refine Im.nat (fun k => impl_comparePre.j0 k _ _ _ _ _) _ ?_ (fun kj hkj => ?_)); (next => rfl); (conv => arg 2; simp only [impl_comparePre.j0, Bool.false_eq_true, reduceIte]))
    | (with_reducible first | exact Im.none | refine Im.ite (fun h => ?_) (fun h => ?_) | refine Im.sbind ?_)
    | ((conv => arg 3; whnf); first
      | ((with_reducible refine Im.fin ?_); exact zr)
      | ((with_reducible refine Im.anyo ?_ ?_); (next => kernel_rfl))
      | ((with_reducible refine Im.bite_t ?_ ?_); (next => exact zq))
      | ((with_reducible refine Im.bite_f ?_ ?_); (next => exact zq))
      | ((with_reducible refine Im.bite_t ?_ ?_); (next => exact zd))
      | ((with_reducible refine Im.must ?_ ?_); (next => exact zd))
      | ((with_reducible refine Im.bite_f ?_ ?_); (next => exact zd))
      | (with_reducible refine Im.byl ?_)
      | ((with_reducible refine Im.vget ByteArray.empty ?_ ?_ ?_); (next => exact zd); (next => exact zd))
      | ((with_reducible refine Im.vget z86 ?_ ?_ ?_); (next => exact zd); (next => exact zd))
      | ((with_reducible refine Im.vget z133 ?_ ?_ ?_); (next => exact zd); (next => exact zd))
      | ((with_reducible refine Im.vget (0 : Int) ?_ ?_ ?_); (next => exact zd); (next => exact zd))
      | ((with_reducible refine Im.vget false ?_ ?_ ?_); (next => exact zd); (next => exact zd))
      | ((with_reducible refine Im.call (impl_compareInts.vi hG ?_ _ _) ?_ (fun r hr => ?_)); (next => omega); (next => exact zr))
      | ((with_reducible refine Im.call (impl_isNumber.vi hG ?_ _) ?_ (fun r hr => ?_)); (next => omega); (next => exact zr))
      | ((with_reducible refine Im.call (strings_Compare.vi hG ?_ _ _) ?_ (fun r hr => ?_)); (next => omega); (next => exact zr))
      | ((with_reducible refine Im.call (strings_TrimLeft.vi hG ?_ _ _) ?_ (fun r hr => ?_)); (next => omega); (next => exact zr))
      | exact zm | exact zx | fail)
  all_goals skip
theorem impl_CompareVersion.vi {k m : Nat} {Gv : FuncId → Option (List VV → Option (VV × List VV))} (hG : Base Gv) (hm : k + 5 ≤ m) (a0_0 : Int) (a0_1 : Int) (a0_2 : Int) (l0_3 : List ByteArray) (a1_0 : Int) (a1_1 : Int) (a1_2 : Int) (l1_3 : List ByteArray) : Im (fun r => (.int r, [])) (impl_CompareVersion.f k a0_0 a0_1 a0_2 l0_3 a1_0 a1_1 a1_2 l1_3) (callv Tryz.prog ti keep Gv m 78 [.ag [.int a0_0, .int a0_1, .int a0_2, .sl (l0_3.map VV.str)], .ag [.int a1_0, .int a1_1, .int a1_2, .sl (l1_3.map VV.str)]]) := by
  obtain ⟨m, rfl⟩ : ∃ m', m = m' + 1 := ⟨m - 1, by omega⟩
  rw [show callv Tryz.prog ti keep Gv (m + 1) 78 _ = _ from callv_enter ((hG 78 (by decide) (by decide) (by decide)).trans rfl) Tryz.func78 (by kernel_rfl) rfl rfl]
  unfold impl_CompareVersion.f
  repeat' first
    | (with_reducible first | exact Im.none | refine Im.ite (fun h => ?_) (fun h => ?_) | refine Im.sbind ?_)
    | ((conv => arg 3; whnf); first
      | ((with_reducible refine Im.fin ?_); exact zr)
      | ((with_reducible refine Im.anyo ?_ ?_); (next => kernel_rfl))
      | ((with_reducible refine Im.bite_t ?_ ?_); (next => exact zq))
      | ((with_reducible refine Im.bite_f ?_ ?_); (next => exact zq))
      | ((with_reducible refine Im.bite_t ?_ ?_); (next => exact zd))
      | ((with_reducible refine Im.must ?_ ?_); (next => exact zd))
      | ((with_reducible refine Im.bite_f ?_ ?_); (next => exact zd))
      | (with_reducible refine Im.byl ?_)
      | ((with_reducible refine Im.vget ByteArray.empty ?_ ?_ ?_); (next => exact zd); (next => exact zd))
      | ((with_reducible refine Im.vget z86 ?_ ?_ ?_); (next => exact zd); (next => exact zd))
      | ((with_reducible refine Im.vget z133 ?_ ?_ ?_); (next => exact zd); (next => exact zd))
      | ((with_reducible refine Im.vget (0 : Int) ?_ ?_ ?_); (next => exact zd); (next => exact zd))
      | ((with_reducible refine Im.vget false ?_ ?_ ?_); (next => exact zd); (next => exact zd))
      | ((with_reducible refine Im.call (impl_compareInts.vi hG ?_ _ _) ?_ (fun r hr => ?_)); (next => omega); (next => exact zr))
      | ((with_reducible refine Im.call (impl_comparePre.vi hG ?_ _ _) ?_ (fun r hr => ?_)); (next => omega); (next => exact zr))
      | ((with_reducible refine Im.loop (S := fun s : List Int × Int × Int × Int × Int × Int × List ByteArray × Int × Int × Int × List ByteArray => [.un, .un, .bx [.int s.2.2.2.1, .int s.2.2.2.2.1, .int s.2.2.2.2.2.1, .sl (s.2.2.2.2.2.2.1.map VV.str)], .bx [.int s.2.2.2.2.2.2.2.1, .int s.2.2.2.2.2.2.2.2.1, .int s.2.2.2.2.2.2.2.2.2.1, .sl (s.2.2.2.2.2.2.2.2.2.2.map VV.str)], .un, .un, .un, .un, .un, .un, .un, .un, .un, .un, .un, .un, .un, .un, .un, .un, .un, .un, .un, .un, .ow 3 1 (s.1.map VV.int), .int s.2.1, .int s.2.2.1, .un, .un, .un, .un, .un, .un, .un, .un, .un, .un, .un, .un, .un, .un, .un, .un, .un, .un, .un, .un, .un, .un, .un, .un, .un, .un, .un, .un, .un, .un, .un, .un, .un, .un, .un, .un, .un, .un, .un, .un, .un, .un, .un, .un, .un, .un, .un, .un, .un, .un, .un, .un, .un, .un, .un]) (L := fun k s => impl_CompareVersion.l0 k s.1 s.2.1 s.2.2.1 s.2.2.2.1 s.2.2.2.2.1 s.2.2.2.2.2.1 s.2.2.2.2.2.2.1 s.2.2.2.2.2.2.2.1 s.2.2.2.2.2.2.2.2.1 s.2.2.2.2.2.2.2.2.2.1 s.2.2.2.2.2.2.2.2.2.2) _ ?_ ?_ _ _ ⟨_, _, _, _, _, _, _, _, _, _, _⟩ _ (Nat.le_refl _) zo ?_)
         (next => intro s; rfl)
         (next =>
           intro k1 M1 ⟨x24, x25, x26, x243000, x243001, x243002, x243003, x244000, x244001, x244002, x244003⟩ hk1 hM1 ih1
           conv => arg 2; simp only [impl_CompareVersion.l0]
           repeat' first
             | (with_reducible first | exact Im.none | refine Im.ite (fun h => ?_) (fun h => ?_) | refine Im.sbind ?_)
             | ((conv => arg 3; whnf); first
               | ((with_reducible refine Im.fin ?_); exact zr)
               | ((with_reducible refine Im.anyo ?_ ?_); (next => kernel_rfl))
               | ((with_reducible refine Im.bite_t ?_ ?_); (next => exact zq))
               | ((with_reducible refine Im.bite_f ?_ ?_); (next => exact zq))
               | ((with_reducible refine Im.bite_t ?_ ?_); (next => exact zd))
               | ((with_reducible refine Im.must ?_ ?_); (next => exact zd))
               | ((with_reducible refine Im.bite_f ?_ ?_); (next => exact zd))
               | (with_reducible refine Im.byl ?_)
               | ((with_reducible refine Im.vget ByteArray.empty ?_ ?_ ?_); (next => exact zd); (next => exact zd))
               | ((with_reducible refine Im.vget z86 ?_ ?_ ?_); (next => exact zd); (next => exact zd))
               | ((with_reducible refine Im.vget z133 ?_ ?_ ?_); (next => exact zd); (next => exact zd))
               | ((with_reducible refine Im.vget (0 : Int) ?_ ?_ ?_); (next => exact zd); (next => exact zd))
               | ((with_reducible refine Im.vget false ?_ ?_ ?_); (next => exact zd); (next => exact zd))
               | ((with_reducible refine Im.call (impl_compareInts.vi hG ?_ _ _) ?_ (fun r hr => ?_)); (next => omega); (next => exact zr))
               | ((with_reducible refine Im.call (impl_comparePre.vi hG ?_ _ _) ?_ (fun r hr => ?_)); (next => omega); (next => exact zr))
               | ((with_reducible refine ih1 _ ⟨_, _, _, _, _, _, _, _, _, _, _⟩ _ ?_ ?_); (next => exact zo); exact zr)
               | ((with_reducible refine Im.loop (S := fun s : Int × Int × Int × Int × Int × List ByteArray × Int × Int × Int × List ByteArray => [.un, .un, .bx [.int s.2.2.1, .int s.2.2.2.1, .int s.2.2.2.2.1, .sl (s.2.2.2.2.2.1.map VV.str)], .bx [.int s.2.2.2.2.2.2.1, .int s.2.2.2.2.2.2.2.1, .int s.2.2.2.2.2.2.2.2.1, .sl (s.2.2.2.2.2.2.2.2.2.map VV.str)], .un, .un, .un, .un, .un, .un, .un, .un, .un, .un, .un, .un, .un, .un, .un, .un, .un, .un, .un, .un, .un, .un, .un, .un, .un, .un, .un, .un, .un, .un, .un, .un, .un, .un, .un, .un, .un, .un, .un, .un, .un, .un, .un, .un, .un, .un, .un, .un, .un, .un, .un, .un, .int s.1, .int s.2.1, .un, .un, .un, .un, .un, .un, .un, .un, .un, .un, .un, .un, .un, .un, .un, .un, .un, .un, .un, .un, .un, .un, .un, .un]) (L := fun k s => impl_CompareVersion.l1 k s.1 s.2.1 s.2.2.1 s.2.2.2.1 s.2.2.2.2.1 s.2.2.2.2.2.1 s.2.2.2.2.2.2.1 s.2.2.2.2.2.2.2.1 s.2.2.2.2.2.2.2.2.1 s.2.2.2.2.2.2.2.2.2) _ ?_ ?_ _ _ ⟨_, _, _, _, _, _, _, _, _, _⟩ _ (Nat.le_refl _) zo ?_)
                  (next => intro s; rfl)
                  (next =>
                    intro k2 M2 ⟨x56, x57, x243000, x243001, x243002, x243003, x244000, x244001, x244002, x244003⟩ hk2 hM2 ih2
                    conv => arg 2; simp only [impl_CompareVersion.l1]
                    repeat' first
                      | (with_reducible first | exact Im.none | refine Im.ite (fun h => ?_) (fun h => ?_) | refine Im.sbind ?_)
                      | ((conv => arg 3; whnf); first
                        | ((with_reducible refine Im.fin ?_); exact zr)
                        | ((with_reducible refine Im.anyo ?_ ?_); (next => kernel_rfl))
                        | ((with_reducible refine Im.bite_t ?_ ?_); (next => exact zq))
                        | ((with_reducible refine Im.bite_f ?_ ?_); (next => exact zq))
                        | ((with_reducible refine Im.bite_t ?_ ?_); (next => exact zd))
                        | ((with_reducible refine Im.must ?_ ?_); (next => exact zd))
                        | ((with_reducible refine Im.bite_f ?_ ?_); (next => exact zd))
                        | (with_reducible refine Im.byl ?_)
                        | ((with_reducible refine Im.vget ByteArray.empty ?_ ?_ ?_); (next => exact zd); (next => exact zd))
                        | ((with_reducible refine Im.vget z86 ?_ ?_ ?_); (next => exact zd); (next => exact zd))
                        | ((with_reducible refine Im.vget z133 ?_ ?_ ?_); (next => exact zd); (next => exact zd))
                        | ((with_reducible refine Im.vget (0 : Int) ?_ ?_ ?_); (next => exact zd); (next => exact zd))
                        | ((with_reducible refine Im.vget false ?_ ?_ ?_); (next => exact zd); (next => exact zd))
                        | ((with_reducible refine Im.call (impl_compareInts.vi hG ?_ _ _) ?_ (fun r hr => ?_)); (next => omega); (next => exact zr))
                        | ((with_reducible refine Im.call (impl_comparePre.vi hG ?_ _ _) ?_ (fun r hr => ?_)); (next => omega); (next => exact zr))
                        | ((with_reducible refine ih2 _ ⟨_, _, _, _, _, _, _, _, _, _⟩ _ ?_ ?_); (next => exact zo); exact zr)
                        | exact zm | exact zx | fail)
                    all_goals skip)
                  exact zr)
               | exact zm | exact zx | fail)
           all_goals skip)
         exact zr)
      | exact zm | exact zx | fail)
  all_goals skip
theorem impl_compareTexts.vi {k m : Nat} {Gv : FuncId → Option (List VV → Option (VV × List VV))} (hG : Base Gv) (hm : k + 8 ≤ m) (a0 : ByteArray) (a1 : ByteArray) : Im (fun r => (.int r, [])) (impl_compareTexts.f k a0 a1) (callv Tryz.prog ti keep Gv m 106 [.str a0, .str a1]) := by
  obtain ⟨m, rfl⟩ : ∃ m', m = m' + 1 := ⟨m - 1, by omega⟩
  rw [show callv Tryz.prog ti keep Gv (m + 1) 106 _ = _ from callv_enter ((hG 106 (by decide) (by decide) (by decide)).trans rfl) Tryz.func106 (by kernel_rfl) rfl rfl]
  unfold impl_compareTexts.f
  repeat' first
    | (with_reducible first | exact Im.none | refine Im.ite (fun h => ?_) (fun h => ?_) | refine Im.sbind ?_)
    | ((conv => arg 3; whnf); first
      | ((with_reducible refine Im.fin ?_); exact zr)
      | ((with_reducible refine Im.anyo ?_ ?_); (next => kernel_rfl))
      | ((with_reducible refine Im.bite_t ?_ ?_); (next => exact zq))
      | ((with_reducible refine Im.bite_f ?_ ?_); (next => exact zq))
      | ((with_reducible refine Im.bite_t ?_ ?_); (next => exact zd))
      | ((with_reducible refine Im.must ?_ ?_); (next => exact zd))
      | ((with_reducible refine Im.bite_f ?_ ?_); (next => exact zd))
      | (with_reducible refine Im.byl ?_)
      | ((with_reducible refine Im.vget ByteArray.empty ?_ ?_ ?_); (next => exact zd); (next => exact zd))
      | ((with_reducible refine Im.vget z86 ?_ ?_ ?_); (next => exact zd); (next => exact zd))
      | ((with_reducible refine Im.vget z133 ?_ ?_ ?_); (next => exact zd); (next => exact zd))
      | ((with_reducible refine Im.vget (0 : Int) ?_ ?_ ?_); (next => exact zd); (next => exact zd))
      | ((with_reducible refine Im.vget false ?_ ?_ ?_); (next => exact zd); (next => exact zd))
      | ((with_reducible refine Im.call (impl_CompareVersion.vi hG ?_ _ _ _ _ _ _ _ _) ?_ (fun r hr => ?_)); (next => omega); (next => exact zr))
      | ((with_reducible refine Im.call (impl_ReadVersion.vi hG ?_ _) ?_ (fun r hr => ?_)); (next => omega); (next => exact zr))
      | exact zm | exact zx | fail)
  all_goals skip
end Go.Proofs.YtcfeihimmboghaaGreatDoor.VI

end
section
namespace Go.Proofs.YtcfeihimmboghaaGreatDoor.U
open Go
set_option linter.unusedVariables false
set_option linter.unusedSimpArgs false
def ResUp {α : Type} (n : Nat) : Result α → Prop
  | .ok _ w => n ≤ w.drawn
  | .halt _ w => n ≤ w.drawn
theorem ask_up {α : Type} : ∀ (k : Ask α) (w : World), w.drawn ≤ (w.ask k).2.drawn
  | .done a, w => Nat.le_refl _
  | .ask what range k, w => by
    unfold World.ask
    by_cases h : (Question.extern what range).forced = true
    · simp only [h, if_true]; exact ask_up (k 0) w
    · simp only [h, if_false, Bool.false_eq_true]
      exact Nat.le_trans (Nat.le_succ _) (ask_up (k _) { w with drawn := w.drawn + 1 })
theorem sys_up (w : World) (c : Sys) : w.drawn ≤ (w.sys c).2.drawn := by
  have h := ask_up (Kernel.perform c w.os) w
  unfold World.sys
  split
  · exact Nat.le_refl _
  · rename_i e; rw [e] at h; exact h
theorem viewStore_up {p : Program} {w : World} {a : Addr} {u : TypeId} {k : Addr} {v : Value} {at_ : Bool} {w' : World} {l : List Addr} (h : w.viewStore p a u k v at_ = .ok (w', l)) : w'.drawn = w.drawn := by
  unfold World.viewStore at h
  simp only [bind, Except.bind, pure, Except.pure, throw, throwThe, MonadExceptOf.throw] at h
  repeat' (split at h)
  all_goals first
    | (cases h; rfl)
    | cases h
theorem farStore_up {p : Program} {w : World} {a : Addr} {v : Value} {at_ : Bool} {w' : World} {l : List Addr} (h : w.farStore p a v at_ = .ok (w', l)) : w'.drawn = w.drawn := by
  unfold World.farStore at h
  split at h
  · split at h
    · rename_i e; cases h; exact viewStore_up e
    · cases h
  · cases h
theorem resup_le {α : Type} {n m : Nat} {r : Result α} (h : n ≤ m) (k : ResUp m r) : ResUp n r := by
  cases r <;> exact Nat.le_trans h k
theorem freeze_up (w : World) (a : Addr) (n : Nat) : (w.freeze a n).drawn = w.drawn := by
  unfold World.freeze
  split <;> rfl
theorem run_up {α : Type} (p : Program) (s : Sem α) : ∀ w : World, ResUp w.drawn (s.run p w) := by
  induction s with
  | pure a => intro w; exact Nat.le_refl _
  | load m a k ih =>
    intro w; rw [Sem.run]
    split
    · exact ih _ w
    · split
      · exact ih _ w
      · exact Nat.le_refl _
  | store m a v k ih =>
    intro w
    have other : (match w.cell? a with | some _ => if w.frozen? a then .halt (.unsupported (.unsafePointer "a write to bytes that a string shares")) w else k.run p (w.setCell a v) | none => match w.farStore p a v (m == .atomic) with | .ok (w, _) => k.run p w | .error h => .halt h w : Result α) = (match w.cell? a with | some _ => if w.frozen? a then .halt (.unsupported (.unsafePointer "a write to bytes that a string shares")) w else k.run p (w.setCell a v) | none => match w.farStore p a v (m == .atomic) with | .ok (w, _) => k.run p w | .error h => .halt h w : Result α) := rfl
    have key : ResUp w.drawn (match w.cell? a with | some _ => if w.frozen? a then .halt (.unsupported (.unsafePointer "a write to bytes that a string shares")) w else k.run p (w.setCell a v) | none => match w.farStore p a v (m == .atomic) with | .ok (w, _) => k.run p w | .error h => .halt h w : Result α) := by
      split
      · split
        · exact Nat.le_refl _
        · exact ih (w.setCell a v)
      · split
        · rename_i w2 _ e
          have := farStore_up e
          rw [← this]; exact ih w2
        · exact Nat.le_refl _
    cases v <;> first | (rw [Sem.run]; exact Nat.le_refl _) | (rw [Sem.run]; exact key; all_goals (intro _ h; cases h))
  | new o k ih => intro w; rw [Sem.run]; exact ih _ { w with heap := w.heap.push o }
  | shape r k ih => intro w; rw [Sem.run]; exact ih _ w
  | freeze a n k ih => intro w; rw [Sem.run]; have := ih (w.freeze a n); rw [freeze_up] at this; exact this
  | frozen a k ih => intro w; rw [Sem.run]; exact ih _ w
  | getObj r k ih =>
    intro w; rw [Sem.run]
    split
    · exact Nat.le_refl _
    · exact ih _ w
    · exact Nat.le_refl _
  | setObj r o k ih =>
    intro w; rw [Sem.run]
    split
    · exact Nat.le_refl _
    · exact ih { w with heap := w.heap.setIfInBounds r o }
    · exact Nat.le_refl _
  | choose q k ih =>
    intro w; rw [Sem.run]
    split
    · exact ih _ w
    · exact resup_le (Nat.le_succ _) (ih _ { w with drawn := w.drawn + 1 })
  | sys c k ih => intro w; rw [Sem.run]; exact resup_le (sys_up w c) (ih _ _)
  | program k ih => intro w; rw [Sem.run]; exact ih _ w
  | mark m k ih => intro w; rw [Sem.run]; exact ih w
  | halt h => intro w; exact Nat.le_refl _
theorem runT_up {α : Type} (p : Program) (s : Sem α) : ∀ (w : World) (es : Array Event), ResUp w.drawn (s.runT p w es).1 := by
  induction s with
  | pure a => intro w es; exact Nat.le_refl _
  | load m a k ih =>
    intro w es; rw [Sem.runT]
    split
    · exact ih _ w _
    · split
      · exact ih _ w _
      · exact Nat.le_refl _
  | store m a v k ih =>
    intro w es
    have key : ResUp w.drawn (match w.cell? a with | some _ => if w.frozen? a then (.halt (.unsupported (.unsafePointer "a write to bytes that a string shares")) w, es) else k.runT p (w.setCell a v) (es.push ⟨.cell a, true, m == .atomic⟩) | none => match w.farStore p a v (m == .atomic) with | .ok (w, touched) => k.runT p w (es ++ touched.toArray.map (⟨.cell ·, true, m == .atomic⟩)) | .error h => (.halt h w, es) : Result α × Array Event).1 := by
      split
      · split
        · exact Nat.le_refl _
        · exact ih (w.setCell a v) _
      · split
        · rename_i w2 _ e
          have := farStore_up e
          rw [← this]; exact ih w2 _
        · exact Nat.le_refl _
    cases v <;> first | (rw [Sem.runT]; exact Nat.le_refl _) | (rw [Sem.runT]; exact key; all_goals (intro _ h; cases h))
  | new o k ih => intro w es; rw [Sem.runT]; exact ih _ { w with heap := w.heap.push o } _
  | shape r k ih => intro w es; rw [Sem.runT]; exact ih _ w _
  | freeze a n k ih => intro w es; rw [Sem.runT]; have := ih (w.freeze a n) es; rw [freeze_up] at this; exact this
  | frozen a k ih => intro w es; rw [Sem.runT]; exact ih _ w _
  | getObj r k ih =>
    intro w es; rw [Sem.runT]
    split
    · exact Nat.le_refl _
    · exact ih _ w _
    · exact Nat.le_refl _
  | setObj r o k ih =>
    intro w es; rw [Sem.runT]
    split
    · exact Nat.le_refl _
    · exact ih { w with heap := w.heap.setIfInBounds r o } _
    · exact Nat.le_refl _
  | choose q k ih =>
    intro w es; rw [Sem.runT]
    split
    · exact ih _ w _
    · exact resup_le (Nat.le_succ _) (ih _ { w with drawn := w.drawn + 1 } _)
  | sys c k ih => intro w es; rw [Sem.runT]; exact resup_le (sys_up w c) (ih _ _ _)
  | program k ih => intro w es; rw [Sem.runT]; exact ih _ w _
  | mark m k ih => intro w es; rw [Sem.runT]; exact ih w _
  | halt h => intro w es; exact Nat.le_refl _
theorem run_ok {α : Type} {p : Program} {s : Sem α} {w w' : World} {a : α} (h : s.run p w = .ok a w') : w.drawn ≤ w'.drawn := by have := run_up p s w; rw [h] at this; exact this
theorem run_halt {α : Type} {p : Program} {s : Sem α} {w w' : World} {a : Halt} (h : s.run p w = .halt a w') : w.drawn ≤ w'.drawn := by have := run_up p s w; rw [h] at this; exact this
theorem runT_ok {α : Type} {p : Program} {s : Sem α} {w : World} {es es' : Array Event} {r : Result α} (h : s.runT p w es = (r, es')) : ResUp w.drawn r := by have := runT_up p s w es; rw [h] at this; exact this
theorem runT1 {α : Type} {p : Program} {s : Sem α} {w : World} {es : Array Event} {r : Result α} (h : (s.runT p w es).1 = r) : ResUp w.drawn r := h ▸ runT_up p s w es
def GUp (n : Nat) : GStep → Prop
  | .go _ w _ | .comm _ _ _ _ w _ | .spawn _ _ w _ | .count _ w _ | .timer _ _ w _ | .alone _ _ w _ | .newcoro _ _ _ w _ | .coroswitch _ _ _ w _ | .collect _ w _ | .watch _ w _ => n ≤ w.drawn
  | .ended .. => True
theorem after_up {n : Nat} {es : Array Event} {s : GStep} (h : GUp n s) : GUp n (GStep.after es s) := by cases s <;> exact h
theorem gup_le {n m : Nat} {s : GStep} (h : n ≤ m) (k : GUp m s) : GUp n s := by
  cases s <;> first | exact Nat.le_trans h k | exact trivial
theorem on_res {α : Type} {n : Nat} {r : Result α} (hr : ResUp n r) {f : α → World → GStep} {g : Halt → World → GStep} (hf : ∀ a w, GUp w.drawn (f a w)) (hg : ∀ h w, GUp w.drawn (g h w)) :
    GUp n (match r with | .ok a w => f a w | .halt h w => g h w) := by
  cases r with
  | ok a w => exact gup_le hr (hf a w)
  | halt h w => exact gup_le hr (hg h w)
theorem endThrow_up (fr : Frame) (m : String) (w : World) : GUp w.drawn (endThrow fr m w) := Nat.le_refl _
theorem endPrinting_up (p : Program) (fr : Frame) (v : Value) (w : World) : GUp w.drawn (endPrinting p fr v w) := by
  unfold endPrinting
  dsimp only
  split
  · exact endThrow_up _ _ _
  · exact trivial
theorem endWith_up (w : World) (fd : Nat) (t : ByteArray) (o : Outcome) (n : Nat) : GUp n (endWith w fd t o) := by
  unfold endWith
  dsimp only
  split
  · split <;> exact trivial
  · exact trivial
  · exact trivial
theorem endFatal_up (p : Program) (fr : Frame) (cs : List Frame) (d : Option Dying) (m : String) (w : World) : GUp w.drawn (endFatal p fr cs d m w) := by
  unfold endFatal
  dsimp only
  split
  · rename_i e; have h := run_ok e; exact h
  · exact trivial
  · exact trivial
theorem writeOn_up (p : Program) (fr : Frame) (d : Dying) (f : Fatal) (w : World) : GUp w.drawn (writeOn p fr d f w) := by
  unfold writeOn
  dsimp only
  split
  · exact trivial
  · split
    · rename_i e; have h := runT_ok e; exact h
    · rename_i e; have h := runT_ok e; exact h
    · exact trivial
    · exact trivial
theorem die_up (p : Program) (fr : Frame) (d : Dying) (w : World) : GUp w.drawn (die p fr d w) := by
  unfold die
  split
  · exact writeOn_up _ _ _ _ _
  · split
    · split
      · exact Nat.le_refl _
      · exact endWith_up _ _ _ _ _
    · dsimp only
      split
      · exact Nat.le_refl _
      · split
        · rename_i e; have h := run_ok e; exact h
        · exact trivial
      · refine after_up ?_
        split
        · rename_i e; have h := runT1 e; exact h
        · rename_i e; have h := runT1 e; exact h
        · exact trivial
        · rename_i e; have h := runT1 e; exact gup_le h (endPrinting_up _ _ _ _)
        · exact trivial
      · exact trivial
theorem doReturn_up (p : Program) (main : Bool) (fr : Frame) (cs : List Frame) (d : Option Dying) (v : Value) (w : World) : GUp w.drawn (doReturn p main fr cs d v w) := by
  unfold doReturn
  split
  · split <;> exact Nat.le_refl _
  · split
    · exact Nat.le_refl _
    · exact trivial
    · split
      · exact Nat.le_refl _
      · split
        · exact Nat.le_refl _
        · exact trivial
theorem gup_ite {n : Nat} {c : Prop} [Decidable c] {a b : GStep} (ha : GUp n a) (hb : GUp n b) : GUp n (if c then a else b) := by
  split
  · exact ha
  · exact hb
theorem callDeferred_up (p : Program) (fr : Frame) (cs : List Frame) (dy : Option Dying) (d : Deferred) (w : World) : GUp w.drawn (callDeferred p fr cs dy d w) := by
  unfold callDeferred
  refine gup_ite trivial ?_
  dsimp only
  refine after_up ?_
  have h := runT_up p (invoke d.target d.args) w #[]
  generalize (Sem.runT p (invoke d.target d.args) w #[]).1 = r at h ⊢
  repeat' split
  all_goals first | exact trivial | exact h | exact gup_le h (endFatal_up _ _ _ _ _ _) | exact gup_le h (endThrow_up _ _ _)
theorem unwind_up (p : Program) (main : Bool) (fr : Frame) (cs : List Frame) (dy : Option Dying) (w : World) : GUp w.drawn (unwind p main fr cs dy w) := by
  unfold unwind
  split
  · rename_i block _ _ _
    refine after_up ?_
    split
    · rename_i e; have h := runT1 e; exact h
    · exact trivial
  · exact callDeferred_up _ _ _ _ _ _
  · split
    · exact trivial
    · split
      · exact trivial
      · split
        · exact Nat.le_refl _
        · split
          · split
            · exact Nat.le_refl _
            · split
              · rename_i e; have h := run_ok e; exact h
              · exact trivial
              · exact trivial
          · split
            · exact endPrinting_up _ _ _ _
            · exact trivial
    · split
      · exact doReturn_up _ _ _ _ _ _ _
      · refine after_up ?_
        rename_i fn _
        split
        · rename_i e; have h := runT1 e; exact gup_le h (doReturn_up _ _ _ _ _ _ _)
        · exact trivial
        · exact trivial
theorem early_up (p : Program) (fr : Frame) (cs : List Frame) (dy : Option Dying) (g : Nat) (w : World) : GUp w.drawn (early p fr cs dy g w) := by
  have ny : ∀ w : World, GUp w.drawn (match w.heap[g]? with | some (.pending c elem) => .go { frame := fr, callers := cs, status := .running, dying := dy } { w with heap := w.heap.setIfInBounds g (.cells c elem) } | _ => .ended (.stuck "early: the variable does not wait" (fr.pos p)) w) := by
    intro w
    split
    · exact Nat.le_refl _
    · exact trivial
  unfold early
  dsimp only
  repeat' split
  all_goals first
    | exact trivial
    | exact Nat.le_refl _
    | (have h := run_ok ‹Sem.run p (choose (Question.early g)) w = Result.ok _ _›; exact h)
theorem apply_up (p : Program) (fr : Frame) (cs : List Frame) (dy : Option Dying) (s : Sem Next) (w : World) (listen : Bool) : GUp w.drawn (stepG.apply p listen fr cs dy s w) := by
  unfold stepG.apply
  dsimp only
  refine after_up ?_
  have h : ResUp w.drawn (if listen = true then Sem.runT p s w #[] else (Sem.run p s w, #[])).1 := by
    split
    · exact runT_up p s w #[]
    · exact run_up p s w
  generalize (if listen = true then Sem.runT p s w #[] else (Sem.run p s w, #[])).1 = r at h ⊢
  repeat' split
  all_goals first | exact trivial | exact h | exact gup_le h (endFatal_up _ _ _ _ _ _) | exact gup_le h (endThrow_up _ _ _) | exact gup_le h (early_up _ _ _ _ _ _)
theorem oper_up (p : Program) (fr : Frame) (cs : List Frame) (dy : Option Dying) (w : World) (listen : Bool) : GUp w.drawn (stepG.oper p listen fr cs dy w) := by
  unfold stepG.oper
  split
  · exact trivial
  · split <;> exact apply_up _ _ _ _ _ _ _
theorem elim_up {α : Type} {n : Nat} {o : Option α} {a : GStep} {f : α → GStep} (ha : GUp n a) (hf : ∀ x, GUp n (f x)) : GUp n (o.elim a f) := by
  cases o with
  | none => exact ha
  | some x => exact hf x
theorem exec_up (p : Program) (main : Bool) (fr : Frame) (cs : List Frame) (dy : Option Dying) (w : World) (listen : Bool) : GUp w.drawn (stepG.exec p main listen fr cs dy w) := by
  have leave : ∀ (b : Bool) (jump : Option Code), GUp w.drawn (match fr.roundOf with
      | none => if b = true then (.go { frame := { fr with mode := .returning }, callers := cs, status := .running, dying := dy } w) else (.ended (.stuck "exit, goto: no such block or label" (fr.pos p)) w)
      | some l =>
        GStep.after (seen p fr.fn ((Instr.endRound l jump).runT p w #[]).2) (match ((Instr.endRound l jump).runT p w #[]).1 with
        | .ok v w => doReturn p main fr cs dy v w
        | .halt _ w => .ended (.stuck "range over a function: no such loop" (fr.pos p)) w)) := by
    intro b jump
    split
    · refine gup_ite (Nat.le_refl _) trivial
    · refine after_up ?_
      split
      · rename_i e; have h := runT1 e; exact gup_le h (doReturn_up _ _ _ _ _ _ _)
      · exact trivial
  unfold stepG.exec
  dsimp only
  split
  all_goals first
    | exact Nat.le_refl _
    | exact trivial
    | exact leave true _
    | exact leave false _
    | exact elim_up (leave false _) (fun _ => Nat.le_refl _)
    | exact apply_up _ _ _ _ _ _ _
    | exact elim_up trivial (fun _ => apply_up _ _ _ _ _ _ _)
    | exact gup_ite (oper_up _ _ _ _ _ _) (Nat.le_refl _)
    | (split <;> first | exact Nat.le_refl _ | exact trivial)
    | skip
  · refine after_up ?_
    split
    · rename_i e; have h := runT1 e; exact gup_le h (apply_up _ _ _ _ _ _ _)
    · exact trivial
  · refine after_up ?_
    split
    · rename_i e; have h := runT1 e; exact h
    · rename_i e; have h := runT1 e; exact h
    · exact trivial
  · refine gup_ite (Nat.le_refl _) ?_
    split
    · rename_i e; have h := run_ok e; exact h
    · exact trivial
theorem stepG_up (p : Program) (main : Bool) (g : Goroutine) (w : World) (listen : Bool) : GUp w.drawn (stepG p main g w listen) := by
  unfold stepG
  dsimp only
  split
  · exact die_up _ _ _ _
  · exact exec_up _ _ _ _ _ _ _
  · exact unwind_up _ _ _ _ _ _
def SUp (n : Nat) : Stepped → Prop
  | .next m => n ≤ m.world.drawn
  | .ended .. => True
theorem sup_le {n m : Nat} {s : Stepped} (h : n ≤ m) (k : SUp m s) : SUp n s := by
  cases s <;> first | exact Nat.le_trans h k | exact trivial
theorem waitingAt_up {rest : Rest} {cases_ : Array CommCase} {w w' : World} (h : waitingAt rest cases_ w = some w') : w'.drawn = w.drawn := by
  unfold waitingAt at h
  split at h
  · split at h
    · cases h; rfl
    · cases h
  · cases h; rfl
theorem communicate_up (p : Program) (rest : Rest) (gs : Array Goroutine) (i : Nat) (g : Goroutine) (cs : Array CommCase) (b : Bool) (sh : CommShape) (w : World) : SUp w.drawn (communicate p rest gs i g cs b sh w).1 := by
  unfold communicate
  dsimp only
  split
  · exact trivial
  · split
    · split
      · split
        · rename_i e; have := waitingAt_up e; show w.drawn ≤ _; rw [← this]; exact Nat.le_refl _
        · exact trivial
      · exact Nat.le_refl _
    · split
      · exact trivial
      · rename_i e
        have h := run_ok e
        refine sup_le h ?_
        clear e h
        split
        · split
          · rename_i e2; have h := run_halt e2; exact h
          · exact trivial
        · exact Nat.le_refl _
        · exact Nat.le_refl _
        · split
          · exact Nat.le_refl _
          · split
            · rename_i e2; have h := run_ok e2; exact h
            · exact trivial
        · exact Nat.le_refl _
        · exact Nat.le_refl _
        · exact trivial
theorem look_up (p : Program) (gs : Array Goroutine) (rest : Rest) (w : World) : SUp w.drawn (look p gs rest w) := by
  unfold look
  split
  · dsimp only
    split
    · exact trivial
    · split
      · exact trivial
      · split
        · rename_i e; have h := run_ok e; exact h
        · exact trivial
        · exact trivial
  · exact trivial
theorem serve_up (p : Program) (m : Machine) (k : Nat) : SUp m.world.drawn (serve p m k) := by
  unfold serve
  split
  · exact trivial
  · exact Nat.le_refl _
  · dsimp only
    split
    · exact trivial
    · exact Nat.le_refl _
theorem drain_up (w : World) (c : Nat) : (drain w c).2.drawn = w.drawn := by
  unfold drain
  split <;> rfl
theorem retime_up (m : Machine) (k : Nat) (t : Timer) (a b : Nat) : (retime m k t a b).2.world.drawn = m.world.drawn := by
  unfold retime
  dsimp only
  split
  · exact drain_up _ _
  · rfl
theorem named_up {m m0 : Machine} {var : Addr} {f : Nat → Timer → Value × Machine} (hf : ∀ k t, (f k t).2.world.drawn = m0.world.drawn) {v : Value} {m' : Machine} (h : timerOp.named m var f = .ok (v, m')) : m'.world.drawn = m0.world.drawn := by
  unfold timerOp.named at h
  split at h
  · rename_i c _; injection h with h; have k := hf c (m.rest.timers.getD c default); rw [h] at k; exact k
  · cases h
theorem opened_up {m m' : Machine} {var : Addr} (h : timerOp.opened m var = some m') : m'.world.drawn = m.world.drawn := by
  unfold timerOp.opened at h
  split at h
  · split at h
    · cases h; rfl
    · cases h
  · cases h; rfl
theorem timerOp_up {m m' : Machine} {op : TimerOp} {v : Value} (h : timerOp m op = .ok (v, m')) : m'.world.drawn = m.world.drawn := by
  unfold timerOp at h
  split at h
  · split at h
    · cases h; rfl
    · split at h
      · split at h
        · cases h
        · cases h; rfl
      · cases h
  · exact named_up (fun k t => retime_up _ _ _ _ _) h
  · split at h
    · rename_i e; exact (named_up (fun k t => retime_up _ _ _ _ _) h).trans (opened_up e)
    · cases h
  · cases h; rfl
theorem runM_up (p : Program) (m : Machine) (i : Nat) (listen : Bool) : SUp m.world.drawn (Go.runT p m i listen).1 := by
  unfold Go.runT
  dsimp only
  have h := stepG_up p (i == 0) (m.gs.swapAt! i { (default : Goroutine) with status := .finished }).1 m.world listen
  generalize stepG p (i == 0) (m.gs.swapAt! i { (default : Goroutine) with status := .finished }).1 m.world listen = s at h ⊢
  cases s with
  | ended o w es => exact trivial
  | comm g cases_ b sh w es => exact sup_le h (communicate_up _ _ _ _ _ _ _ _ _)
  | go g w es => exact h
  | spawn g c w es => exact h
  | count g w es => dsimp only; split <;> first | exact trivial | exact h
  | alone g on w es => exact h
  | collect g w es => exact sup_le h (look_up _ _ _ _)
  | watch g w es => exact h
  | newcoro g c d w es => exact h
  | coroswitch g c exit w es =>
    dsimp only
    split
    · exact h
    · split
      · rename_i e; unfold endThrow dieOf at e; injection e with _ e2 _; show _ ≤ _; rw [← e2]; exact h
      · exact trivial
    · exact trivial
  | timer g op w es =>
    dsimp only
    split
    · rename_i e; have := timerOp_up e; show _ ≤ _; exact Nat.le_trans h (Nat.le_of_eq this.symm)
    · split
      · rename_i e; unfold endThrow dieOf at e; injection e with _ e2 _; show _ ≤ _; rw [← e2]; exact h
      · exact trivial
    · exact trivial
    · exact trivial
def MUp (n : Nat) : Move → Prop
  | .goroutine m _ => n ≤ m.world.drawn
  | .machine s _ => SUp n s
theorem mup_le {n m : Nat} {s : Move} (h : n ≤ m) (k : MUp m s) : MUp n s := by
  cases s with
  | goroutine m _ => exact Nat.le_trans h k
  | machine s _ => exact sup_le h k
theorem askOn_up (p : Program) (m : Machine) : MUp m.world.drawn (askOn p m) := by
  unfold askOn
  dsimp only
  have pick : ∀ (m1 : Machine) (rs : List Nat), m.world.drawn ≤ m1.world.drawn → MUp m.world.drawn (match (choose (.sched rs.length)).run p m1.world with
      | .halt _ w => .machine (.ended (.stuck "sched" "") w)
      | .ok k world =>
        if rs.length ≤ 1 then .goroutine { m1 with world } (rs.getD k 0) else
        match (choose (.extern "sched.slice" 65536)).run p world with
        | .halt _ w => .machine (.ended (.stuck "sched.slice" "") w)
        | .ok n world => .goroutine { m1 with world, rest := { m1.rest with slice := if n = 0 then none else some (rs.getD k 0, n) } } (rs.getD k 0) : Move) := by
    intro m1 rs h1
    split
    · exact trivial
    · rename_i e
      have h2 := Nat.le_trans h1 (run_ok e)
      split
      · exact h2
      · split
        · exact trivial
        · rename_i e3; have h3 := run_ok e3; exact Nat.le_trans h2 h3
  split
  · exact trivial
  · rename_i e
    have h := run_ok e
    split
    · exact sup_le h (serve_up p _ _)
    · split
      · split
        · exact h
        · split
          · exact h
          · split
            · exact trivial
            · exact trivial
      · split
        · exact pick { m with world := _ } _ h
        · split
          · exact trivial
          · rename_i e3; have h3 := run_ok e3; exact pick { m with world := _ } _ (Nat.le_trans h h3)
          · rename_i e3; have h3 := run_ok e3; exact Nat.le_trans h h3
          · rename_i e3; have h3 := run_ok e3; exact pick (Machine.advanceTo { m with world := _ } _) _ (Nat.le_trans h h3)
theorem askM_up (p : Program) (m : Machine) : MUp m.world.drawn (Go.ask p m) := by
  unfold Go.ask
  split
  · split
    · exact trivial
    · rename_i w1 e
      have h := run_ok e
      have k := look_up p m.gs m.rest w1
      split
      · rename_i e2; rw [e2] at k; exact mup_le (Nat.le_trans h k) (askOn_up p _)
      · exact sup_le h k
    · rename_i e; exact mup_le (run_ok e) (askOn_up p _)
  · exact askOn_up p m
theorem move_up (p : Program) (m : Machine) : MUp m.world.drawn (move p m) := by
  unfold move
  split
  · split
    · exact Nat.le_refl _
    · exact trivial
  · split
    · split
      · exact Nat.le_refl _
      · exact askM_up p _
    · exact askM_up p m
theorem step_up (p : Program) (m : Machine) : SUp m.world.drawn (step p m) := by
  unfold step stepT
  have h := move_up p m
  split
  · rename_i e; rw [e] at h; exact sup_le h (runM_up p _ _ _)
  · rename_i e; rw [e] at h; exact h
theorem runN_up (p : Program) : ∀ (n : Nat) (m m' : Machine), runN p n m = .next m' → m.world.drawn ≤ m'.world.drawn
  | 0, m, m', h => by rw [runN] at h; cases h; exact Nat.le_refl _
  | n + 1, m, m', h => by
    rw [runN] at h
    have k := step_up p m
    split at h
    · rename_i e; rw [e] at k; exact Nat.le_trans k (runN_up p n _ _ h)
    · rename_i e; exact absurd h (e _)
theorem calls_drawn {P : Program} {f : FuncId} {args : Array Value} {w : World} {R : Ending → World → Prop} (h : Calls P f args w R) : Calls P f args w fun e w' => R e w' ∧ ∀ v, e = .returned v → w.drawn ≤ w'.drawn := by
  intro cs
  obtain ⟨e, w', fr, hR, hC, hf, hl⟩ := h cs
  refine ⟨e, w', fr, ⟨hR, ?_⟩, hC, hf, hl⟩
  rintro v rfl
  obtain ⟨n, hn⟩ := (hC : Steps P _ _)
  exact runN_up P n _ _ hn
end Go.Proofs.YtcfeihimmboghaaGreatDoor.U

end
section
namespace Go.Proofs.YtcfeihimmboghaaGreatDoor.VI
open Go Go.RowKit Go.Sort Go.Lib Go.Proofs Go.Proofs.YtcfeihimmboghaaGreatDoor.G Go.Proofs.YtcfeihimmboghaaGreatDoorW.PrintWords
set_option maxRecDepth 100000
set_option linter.unusedVariables false
set_option linter.unusedSimpArgs false
theorem below_grow {w w' : World} (h : Below w.heap.size w w') (hd : w.drawn ≤ w'.drawn) : ∃ q os', w' = grow (w.drewN q) os' := by
  have hh : w'.heap = w.heap ++ w'.heap.extract w.heap.size w'.heap.size := by
    apply Array.ext_getElem?
    intro k
    by_cases hk : k < w.heap.size
    · rw [Array.getElem?_append_left hk]; exact h.block k hk
    · rw [Array.getElem?_append_right (by omega), Array.getElem?_extract]
      have := h.size
      split
      · congr 1; omega
      · rw [Array.getElem?_eq_none (by omega)]
  refine ⟨w'.drawn - w.drawn, w'.heap.extract w.heap.size w'.heap.size, ?_⟩
  have e1 := h.os; have e2 := h.tape; have e3 := h.output
  obtain ⟨a1, a2, a3, a4, a5⟩ := w
  obtain ⟨b1, b2, b3, b4, b5⟩ := w'
  simp only at e1 e2 e3 hh hd
  subst e1; subst e2; subst e3
  simp only [grow, World.drewN]
  congr 1
  omega
abbrev Ver := {s : List UInt8 // U.isVer s = true ∧ s.length ≤ 1048576}
def cfV (x y : Ver) : Int := U.cmpS x.1 y.1
def encV (x : Ver) : Value := encStr x.1
section
variable {W : World}
theorem cmp_calls (hE : Glob FactE W) (hM : Glob FactM W) (hT : Glob FactT W) {w : World} (hw : Below W.heap.size W w) (s t : ByteArray) (hs : s.size ≤ 1048576) (ht : t.size ≤ 1048576) :
    Calls Tryz.prog 106 #[.string s, .string t] w fun e w' => e = .returned (.int .i64 (U.cmpS (U.L s) (U.L t))) ∧ ∃ q os', w' = grow (w.drewN q) os' := by
  obtain ⟨k0, hk⟩ := U.impl_compareTexts_ev s t hs ht
  have gws : ∀ a b, Below W.heap.size W a → Below W.heap.size a b → Below W.heap.size W b := fun a b h1 h2 => h1.trans h2
  have hok := callv_ok (P := Tryz.prog) (NG := W.heap.size) (GW := fun a => Below W.heap.size W a) VI.hti gws (keep := keep) (Gv := Gv0) (given_ok0 hE hM hT) (fun C hC hc => any_sound (by kernel_rfl) (by rw [hC]; exact VI.hti) gws hc) (k0 + 20)
  have h1 := CallOk1.calls (hok 106 _ _ rfl (impl_compareTexts.vi (k := k0) (m := k0 + 20) base0 (by omega) s t _ (hk k0 (Nat.le_refl _)))) hw hw.size (.cons _ _ _ _ (.s (.string s)) (.cons _ _ _ _ (.s (.string t)) .nil))
  refine (U.calls_drawn h1).mono fun e w' ⟨⟨he, hb⟩, hd⟩ => ⟨he, below_grow hb (hd _ he)⟩
theorem below_sort {α : Type} [Inhabited α] {enc : α → Value} {w : World} {blk n : Nat} {d : Array α} {os : Array Obj} (hw : Below W.heap.size W w) (hb : W.heap.size ≤ blk) : Below W.heap.size W (sortWorld enc w blk 0 n d os) := by
  refine ⟨hw.os, hw.tape, hw.output, ?_, fun k hk => ?_⟩
  · have := hw.size
    simp only [sortWorld, Go.Sort.size_grow, size_putRow, heap_ahead]
    omega
  · rw [← hw.block k hk]
    have h1 := hw.size
    simp only [sortWorld]
    rw [Go.Sort.heap_grow_old _ _ (by simp only [size_putRow, heap_ahead]; omega)]
    have : blk ≠ k := by omega
    simp [putRow, mapBlock, Sort.ahead, Array.getElem?_modify, this]
theorem cmp_lays [Inhabited Ver] (hE : Glob FactE W) (hM : Glob FactM W) (hT : Glob FactT W) {w : World} (hw : Below W.heap.size W w) {blk : Nat} (hb : W.heap.size ≤ blk) (size : Nat) : CmpLays1 Tryz.prog 106 #[] encV cfV blk 0 size w := by
  intro m os dk hs x y
  have h := cmp_calls hE hM hT (below_sort (enc := encV) (n := m) (d := dk) (os := os) hw hb) ⟨x.1.toArray⟩ ⟨y.1.toArray⟩ (by have := x.2.2; simpa [ByteArray.size] using this) (by have := y.2.2; simpa [ByteArray.size] using this)
  refine (show Calls Tryz.prog 106 (#[encV x, encV y] ++ #[]) (sortWorld encV w blk 0 m dk os) _ from h).mono fun e w' ⟨he, q, os', hq⟩ => ⟨?_, q, os', hq⟩
  rw [he]
  simp only [cfV]
  rw [show U.L ⟨x.1.toArray⟩ = x.1 from by simp [U.L], show U.L ⟨y.1.toArray⟩ = y.1 from by simp [U.L]]
theorem eg41 (args : Array Value) (w : World) : (callFunc 106 args).run Tryz.prog w = .ok (.enter 106 args) w := by
  obtain ⟨fn, hf, hn, hb⟩ : FnOk Tryz.prog 106 := ⟨_, Tryz.func106, by kernel_rfl, by kernel_rfl⟩
  obtain ⟨c, hc⟩ := Option.isSome_iff_exists.1 hb
  have h1 : fn.name ≠ "runtime.NumGoroutine" := by simpa using hn
  simp [callFunc, hf, h1, hc]
theorem cf_keyed : U.Keyed cfV (fun x => U.verK x.1) := fun x y => U.cmpS_keyed x.1 y.1
theorem sort_calls [Inhabited Ver] (hE : Glob FactE W) (hM : Glob FactM W) (hT : Glob FactT W) {w : World} (hw : Below W.heap.size W w) {blk cap : Nat} (hb : W.heap.size ≤ blk) (hblk : blk < w.heap.size) (d : Array Ver) (hH : Holds encV w blk 0 d) (hsz : d.size ≤ 1048576) :
    Calls Tryz.prog 149 #[.slice (some ⟨blk, 0, none⟩) d.size cap, .func (.func 106) #[] #[]] w fun e w' => e = .returned (.tuple #[]) ∧ ∃ n os, w' = sortWorld encV w blk 0 n (d.toList.mergeSort fun x y => !(ltOf cfV) y x).toArray os :=
  Tryz.slices_SortFunc_total encV (fun _ => rfl) cfV (cf_keyed.swo) 106 #[] blk 0 cap d w eg41 (cmp_lays hE hM hT hw hb d.size) hH hblk (by omega) (fun x y h1 h2 => by
    have h3 : cfV x y = 0 := by
      have e1 : ¬ cfV x y < 0 := by simpa [ltOf] using h1
      have e2 : ¬ cfV y x < 0 := by simpa [ltOf] using h2
      have := cf_keyed.anti x y
      omega
    exact Subtype.ext (U.cmpS_inj x.2.1 y.2.1 h3))
end
section
variable {W : World}
theorem pre_wp (hE : Glob FactE W) (hM : Glob FactM W) (hT : Glob FactT W) {w : World} (hw : Below W.heap.size W w) {pd : Nat → Nat → Prop} {m0 : Value} {l0 : List ByteArray} (h0 : DR pd w (.sl (l0.map VV.str)) m0) {k : Nat} {r : List ByteArray} (h : impl_SortPre.f k l0 = some r) {Q : Exit → Act → World → Prop}
    (next : ∀ G' env' a' w', Sim W.heap.size (fun a => Below W.heap.size W a) [] w pd G' env' a' w' → get env' 3 = .ow 9 1 (r.map VV.str) → a'.tmps.size = 24 → (sR (sR (sR code20))).wp Tryz.prog Q a' w') :
    code20.wp Tryz.prog Q { tmps := #[m0] ++ Array.replicate (Tryz.f71.ntmps - (#[m0] : Array Value).size) undef, defers := [] } w := by
  have gws : ∀ a b, Below W.heap.size W a → Below W.heap.size a b → Below W.heap.size W b := fun a b h1 h2 => h1.trans h2
  have hA : ∀ C : Cx, C.ti = ti → CallOk Tryz.prog W.heap.size (fun a => Below W.heap.size W a) C.call → AnyOk Tryz.prog W.heap.size (fun a => Below W.heap.size W a) C := fun C hC hc => any_sound (by kernel_rfl) (by rw [hC]; exact VI.hti) gws hc
  have ih := callv_ok (P := Tryz.prog) (NG := W.heap.size) (GW := fun a => Below W.heap.size W a) VI.hti gws (keep := keep) (Gv := Gv0) (given_ok0 hE hM hT) hA (k + 20)
  let C : Cx := ⟨ti, callv Tryz.prog ti keep Gv0 (k + 20), k + 20⟩
  have hrun : pre3 C (keep 71) (start Tryz.f71 [.sl (l0.map VV.str)]) = some (.ow 9 1 (r.map VV.str)) := impl_SortPre.run (k := k) (m := k + 20) (by omega) l0 r h
  let G0 : Gh := ⟨pd, pd, fun _ => 0, fun _ => none, w.heap.size⟩
  have hs0 : Sim W.heap.size (fun a => Below W.heap.size W a) [] w pd G0 (start Tryz.f71 [.sl (l0.map VV.str)]) { tmps := #[m0] ++ Array.replicate (Tryz.f71.ntmps - (#[m0] : Array Value).size) undef, defers := [] } w := by
    refine { size := (by simp [start]), slot := ?_, df := rfl, fr := Fr.refl _ _ _, gw := hw, ng := hw.size, ngio := (by simp), own := (fun g p h => by cases h), ownp := (fun g k h => absurd rfl h), dv := (fun _ _ h => h), B := rfl, old := (fun g k _ h => h) }
    intro t v u hv hu
    cases t with
    | zero =>
      simp [start] at hv hu
      subst hv; subst hu
      exact h0
    | succ t =>
      rw [start, List.getElem?_append_right (by simp)] at hv
      have := List.eq_of_mem_replicate (List.mem_of_getElem? hv)
      subst this
      exact SlotR.un
  have hc : code20 = (sL code20).seq ((sL (sR code20)).seq ((sL (sR (sR code20))).seq (sR (sR (sR code20))))) := by kernel_rfl
  rw [hc]
  refine wp_seq (run_sound (C := C) VI.hti gws ih (hA C rfl ih) (keep 71) (sL code20) 0 G0 _ _ w _ _ hs0 hrun fun e G' env' a' w' hs' h' => ?_)
  cases e with
  | normal =>
    refine wp_seq (run_sound (C := C) VI.hti gws ih (hA C rfl ih) (keep 71) (sL (sR code20)) 0 G' _ _ w' _ _ hs' h' fun e G' env' a' w' hs' h' => ?_)
    cases e with
    | normal =>
      refine wp_seq (run_sound (C := C) VI.hti gws ih (hA C rfl ih) (keep 71) (sL (sR (sR code20))) 0 G' _ _ w' _ _ hs' h' fun e G' env' a' w' hs' h' => ?_)
      cases e with
      | normal =>
        obtain ⟨hb, h5⟩ := must_some h'
        exact next G' env' a' w' hs' (Option.some.inj h5) (by rw [← hs'.size]; exact Nat.eq_of_beq_eq_true hb)
      | _ => cases h'
    | _ => cases h'
  | _ => cases h'
end
end Go.Proofs.YtcfeihimmboghaaGreatDoor.VI

end
section
namespace Go.Proofs.YtcfeihimmboghaaGreatDoor.VI
open Go Go.RowKit Go.Sort Go.Lib Go.Proofs Go.Proofs.YtcfeihimmboghaaGreatDoor.G Go.Proofs.YtcfeihimmboghaaGreatDoorW.PrintWords
set_option maxRecDepth 100000
set_option maxHeartbeats 4000000
set_option linter.unusedVariables false
set_option linter.unusedSimpArgs false
theorem arr24 {T : Array Value} (h : T.size = 24) : ∃ x0 x1 x2 x3 x4 x5 x6 x7 x8 x9 x10 x11 x12 x13 x14 x15 x16 x17 x18 x19 x20 x21 x22 x23, T = #[x0, x1, x2, x3, x4, x5, x6, x7, x8, x9, x10, x11, x12, x13, x14, x15, x16, x17, x18, x19, x20, x21, x22, x23] := by
  obtain ⟨l⟩ := T
  simp only [List.size_toArray] at h
  match l, h with
  | [x0, x1, x2, x3, x4, x5, x6, x7, x8, x9, x10, x11, x12, x13, x14, x15, x16, x17, x18, x19, x20, x21, x22, x23], _ => exact ⟨_, _, _, _, _, _, _, _, _, _, _, _, _, _, _, _, _, _, _, _, _, _, _, _, rfl⟩
section
variable {W : World}
theorem tail_wp {P1 : World → World → Prop} {x0 x1 x2 x3 x4 x5 x6 x7 x8 x9 x10 x11 x12 x13 x14 x15 x16 x17 x18 x19 x20 x21 x22 x23 : Value} {w : World} {R : Value → World → Prop}
    (C1 : Calls Tryz.prog 149 #[x3, .func (.func 106) #[] #[]] w fun e w' => e = .returned (.tuple #[]) ∧ P1 w w') (C2 : ∀ w1, P1 w w1 → ∃ v, Calls Tryz.prog 150 #[x3] w1 fun e w' => e = .returned v ∧ R v w') :
    (sR (sR (sR code20))).wp Tryz.prog (bodyPost Tryz.prog Tryz.f71 fun e w' => ∃ v, e = .returned v ∧ R v w') { tmps := #[x0, x1, x2, x3, x4, x5, x6, x7, x8, x9, x10, x11, x12, x13, x14, x15, x16, x17, x18, x19, x20, x21, x22, x23], defers := [] } w := by
  simp only [code20, sR, Tryz.f71]
  go_wp2_with (first | (go_at_call 149; (with_reducible refine C1.mono ?_); rintro e w1 ⟨rfl, h1⟩; obtain ⟨v, C2'⟩ := C2 _ h1) | (go_at_call 150; (with_reducible refine C2'.mono ?_); rintro e w2 ⟨rfl, h2⟩))
  go_ret
  exact ⟨_, rfl, h2⟩
end
end Go.Proofs.YtcfeihimmboghaaGreatDoor.VI

end
