/- A part of the proof that the law FnExactPick answers true at every input that its row speaks of. Conditions: the row's own. -/
import Derived.Test.YtcfeihimmboghaaGreatDoorMFnExactPick8
import Derived.Test.YtcfeihimmboghaaGreatDoorKFnExactPick0
import Derived.Test.YtcfeihimmboghaaGreatDoorMFnExactPick12
import Derived.Test.YtcfeihimmboghaaGreatDoorKFnExactPick1
import Derived.Test.YtcfeihimmboghaaGreatDoorMFnExactPick2
import Derived.Test.YtcfeihimmboghaaGreatDoorMFnExactPick11
import Derived.Test.YtcfeihimmboghaaGreatDoorMFnExactPick1
import Derived.Test.YtcfeihimmboghaaGreatDoorKFnExactPick2
section
namespace Go.Proofs.YtcfeihimmboghaaGreatDoor.VI
open Go Go.RowKit Go.Proofs.YtcfeihimmboghaaGreatDoor.G Go.Proofs.YtcfeihimmboghaaGreatDoorW.PrintWords
set_option maxRecDepth 100000
set_option maxHeartbeats 16000000
attribute [local irreducible] bite obind vget
theorem spec_l02Texts.vi {m : Nat} {Gv : FuncId → Option (List VV → Option (VV × List VV))} (hG : Base Gv) (hm : 1 ≤ m) (a0 : ByteArray) (a1 : ByteArray) : Im (fun r => (.int r, [])) (spec_l02Texts.f a0 a1) (callv Tryz.prog ti keep Gv m 237 [.str a0, .str a1]) := by
  obtain ⟨m, rfl⟩ : ∃ m', m = m' + 1 := ⟨m - 1, by omega⟩
  rw [show callv Tryz.prog ti keep Gv (m + 1) 237 _ = _ from callv_enter ((hG 237 (by decide)).trans rfl) Tryz.func237 (by kernel_rfl) rfl rfl]
  unfold spec_l02Texts.f
  repeat' first
    | (with_reducible first | exact Im.none | refine Im.ite (fun h => ?_) (fun h => ?_) | refine Im.sbind ?_)
    | ((conv => arg 3; whnf); first
      | ((with_reducible refine Im.fin ?_); exact zr)
      | ((with_reducible refine Im.anyo ?_ ?_); (next => kernel_rfl))
      | ((with_reducible refine Im.bite_t ?_ ?_); (next => exact zq))
      | ((with_reducible refine Im.bite_f ?_ ?_); (next => exact zq))
      | ((with_reducible refine Im.bite_t ?_ ?_); (next => exact zd))
      | ((with_reducible refine Im.must ?_ ?_); (next => exact zd))
      | ((with_reducible refine Im.bite_f ?_ ?_); (next => exact zd))
      | (with_reducible refine Im.byl ?_)
      | ((with_reducible refine Im.vget ByteArray.empty ?_ ?_ ?_); (next => exact zd); (next => exact zd))
      | ((with_reducible refine Im.vget z86 ?_ ?_ ?_); (next => exact zd); (next => exact zd))
      | ((with_reducible refine Im.vget z133 ?_ ?_ ?_); (next => exact zd); (next => exact zd))
      | ((with_reducible refine Im.vget (0 : Int) ?_ ?_ ?_); (next => exact zd); (next => exact zd))
      | ((with_reducible refine Im.vget false ?_ ?_ ?_); (next => exact zd); (next => exact zd))
      | exact zm | exact zx | fail)
  all_goals skip
theorem spec_l02Part.vi {k m : Nat} {Gv : FuncId → Option (List VV → Option (VV × List VV))} (hG : Base Gv) (hm : k + 3 ≤ m) (a0 : ByteArray) (a1 : ByteArray) : Im (fun r => (.int r, [])) (spec_l02Part.f k a0 a1) (callv Tryz.prog ti keep Gv m 204 [.str a0, .str a1]) := by
  obtain ⟨m, rfl⟩ : ∃ m', m = m' + 1 := ⟨m - 1, by omega⟩
  rw [show callv Tryz.prog ti keep Gv (m + 1) 204 _ = _ from callv_enter ((hG 204 (by decide)).trans rfl) Tryz.func204 (by kernel_rfl) rfl rfl]
  unfold spec_l02Part.f
  repeat' first
    | ((with_reducible refine Im.nat (fun k => spec_l02Part.j0 k _ _ _ _ _) _ ?_ (fun kj hkj => ?_)); (next => rfl); (conv => arg 2; simp only [spec_l02Part.j0, Bool.false_eq_true, reduceIte]))
    | (with_reducible first | exact Im.none | refine Im.ite (fun h => ?_) (fun h => ?_) | refine Im.sbind ?_)
    | ((conv => arg 3; whnf); first
      | ((with_reducible refine Im.fin ?_); exact zr)
      | ((with_reducible refine Im.anyo ?_ ?_); (next => kernel_rfl))
      | ((with_reducible refine Im.bite_t ?_ ?_); (next => exact zq))
      | ((with_reducible refine Im.bite_f ?_ ?_); (next => exact zq))
      | ((with_reducible refine Im.bite_t ?_ ?_); (next => exact zd))
      | ((with_reducible refine Im.must ?_ ?_); (next => exact zd))
      | ((with_reducible refine Im.bite_f ?_ ?_); (next => exact zd))
      | (with_reducible refine Im.byl ?_)
      | ((with_reducible refine Im.vget ByteArray.empty ?_ ?_ ?_); (next => exact zd); (next => exact zd))
      | ((with_reducible refine Im.vget z86 ?_ ?_ ?_); (next => exact zd); (next => exact zd))
      | ((with_reducible refine Im.vget z133 ?_ ?_ ?_); (next => exact zd); (next => exact zd))
      | ((with_reducible refine Im.vget (0 : Int) ?_ ?_ ?_); (next => exact zd); (next => exact zd))
      | ((with_reducible refine Im.vget false ?_ ?_ ?_); (next => exact zd); (next => exact zd))
      | ((with_reducible refine Im.call (spec_ReadDec.vi hG ?_ _) ?_ (fun r hr => ?_)); (next => omega); (next => exact zr))
      | ((with_reducible refine Im.call (spec_l02Less.vi hG ?_ _ _) ?_ (fun r hr => ?_)); (next => omega); (next => exact zr))
      | ((with_reducible refine Im.call (spec_l02Texts.vi hG ?_ _ _) ?_ (fun r hr => ?_)); (next => omega); (next => exact zr))
      | exact zm | exact zx | fail)
  all_goals skip
theorem spec_CompareVersion.vi {k m : Nat} {Gv : FuncId → Option (List VV → Option (VV × List VV))} (hG : Base Gv) (hm : k + 4 ≤ m) (a0_0 : Int) (a0_1 : Int) (a0_2 : Int) (l0_3 : List ByteArray) (a1_0 : Int) (a1_1 : Int) (a1_2 : Int) (l1_3 : List ByteArray) : Im (fun r => (.int r, [])) (spec_CompareVersion.f k a0_0 a0_1 a0_2 l0_3 a1_0 a1_1 a1_2 l1_3) (callv Tryz.prog ti keep Gv m 148 [.ag [.int a0_0, .int a0_1, .int a0_2, .sl (l0_3.map VV.str)], .ag [.int a1_0, .int a1_1, .int a1_2, .sl (l1_3.map VV.str)]]) := by
  obtain ⟨m, rfl⟩ : ∃ m', m = m' + 1 := ⟨m - 1, by omega⟩
  rw [show callv Tryz.prog ti keep Gv (m + 1) 148 _ = _ from callv_enter ((hG 148 (by decide)).trans rfl) Tryz.func148 (by kernel_rfl) rfl rfl]
  unfold spec_CompareVersion.f
  repeat' first
    | (with_reducible first | exact Im.none | refine Im.ite (fun h => ?_) (fun h => ?_) | refine Im.sbind ?_)
    | ((conv => arg 3; whnf); first
      | ((with_reducible refine Im.fin ?_); exact zr)
      | ((with_reducible refine Im.anyo ?_ ?_); (next => kernel_rfl))
      | ((with_reducible refine Im.bite_t ?_ ?_); (next => exact zq))
      | ((with_reducible refine Im.bite_f ?_ ?_); (next => exact zq))
      | ((with_reducible refine Im.bite_t ?_ ?_); (next => exact zd))
      | ((with_reducible refine Im.must ?_ ?_); (next => exact zd))
      | ((with_reducible refine Im.bite_f ?_ ?_); (next => exact zd))
      | (with_reducible refine Im.byl ?_)
      | ((with_reducible refine Im.vget ByteArray.empty ?_ ?_ ?_); (next => exact zd); (next => exact zd))
      | ((with_reducible refine Im.vget z86 ?_ ?_ ?_); (next => exact zd); (next => exact zd))
      | ((with_reducible refine Im.vget z133 ?_ ?_ ?_); (next => exact zd); (next => exact zd))
      | ((with_reducible refine Im.vget (0 : Int) ?_ ?_ ?_); (next => exact zd); (next => exact zd))
      | ((with_reducible refine Im.vget false ?_ ?_ ?_); (next => exact zd); (next => exact zd))
      | ((with_reducible refine Im.call (spec_l02Less.vi hG ?_ _ _) ?_ (fun r hr => ?_)); (next => omega); (next => exact zr))
      | ((with_reducible refine Im.call (spec_l02Part.vi hG ?_ _ _) ?_ (fun r hr => ?_)); (next => omega); (next => exact zr))
      | ((with_reducible refine Im.loop (S := fun s : List Int × Int × Int × Int × Int × List ByteArray × Int × Int × Int × List ByteArray => [.un, .un, .bx [.int s.2.2.1, .int s.2.2.2.1, .int s.2.2.2.2.1, .sl (s.2.2.2.2.2.1.map VV.str)], .bx [.int s.2.2.2.2.2.2.1, .int s.2.2.2.2.2.2.2.1, .int s.2.2.2.2.2.2.2.2.1, .sl (s.2.2.2.2.2.2.2.2.2.map VV.str)], .un, .ow 3 1 (s.1.map VV.int), .int s.2.1, .un, .un, .un, .un, .un, .un, .un, .un, .un, .un, .un, .un, .un, .un, .un, .un, .un, .un, .un, .un, .un, .un, .un, .un, .un, .un, .un, .un, .un, .un, .un, .un, .un, .un, .un, .un, .un, .un, .un, .un, .un, .un, .un, .un, .un, .un, .un, .un, .un, .un, .un, .un, .un, .un, .un, .un, .un, .un, .un, .un, .un, .un, .un, .un, .un, .un, .un, .un, .un, .un, .un, .un, .un, .un, .un, .un, .un, .un, .un, .un, .un, .un, .un]) (L := fun k s => spec_CompareVersion.l0 k s.1 s.2.1 s.2.2.1 s.2.2.2.1 s.2.2.2.2.1 s.2.2.2.2.2.1 s.2.2.2.2.2.2.1 s.2.2.2.2.2.2.2.1 s.2.2.2.2.2.2.2.2.1 s.2.2.2.2.2.2.2.2.2) _ ?_ ?_ _ _ ⟨_, _, _, _, _, _, _, _, _, _⟩ _ (Nat.le_refl _) zo ?_)
         (next => intro s; rfl)
         (next =>
           intro k1 M1 ⟨x5, x6, x165000, x165001, x165002, x165003, x166000, x166001, x166002, x166003⟩ hk1 hM1 ih1
           conv => arg 2; simp only [spec_CompareVersion.l0]
           repeat' first
             | ((with_reducible refine Im.nat (fun k => spec_CompareVersion.j1 k _ _ _ _ _ _ _ _ _) _ ?_ (fun kj hkj => ?_)); (next => rfl); (conv => arg 2; simp only [spec_CompareVersion.j1, Bool.false_eq_true, reduceIte]))
             | (with_reducible first | exact Im.none | refine Im.ite (fun h => ?_) (fun h => ?_) | refine Im.sbind ?_)
             | ((conv => arg 3; whnf); first
               | ((with_reducible refine Im.fin ?_); exact zr)
               | ((with_reducible refine Im.anyo ?_ ?_); (next => kernel_rfl))
               | ((with_reducible refine Im.bite_t ?_ ?_); (next => exact zq))
               | ((with_reducible refine Im.bite_f ?_ ?_); (next => exact zq))
               | ((with_reducible refine Im.bite_t ?_ ?_); (next => exact zd))
               | ((with_reducible refine Im.must ?_ ?_); (next => exact zd))
               | ((with_reducible refine Im.bite_f ?_ ?_); (next => exact zd))
               | (with_reducible refine Im.byl ?_)
               | ((with_reducible refine Im.vget ByteArray.empty ?_ ?_ ?_); (next => exact zd); (next => exact zd))
               | ((with_reducible refine Im.vget z86 ?_ ?_ ?_); (next => exact zd); (next => exact zd))
               | ((with_reducible refine Im.vget z133 ?_ ?_ ?_); (next => exact zd); (next => exact zd))
               | ((with_reducible refine Im.vget (0 : Int) ?_ ?_ ?_); (next => exact zd); (next => exact zd))
               | ((with_reducible refine Im.vget false ?_ ?_ ?_); (next => exact zd); (next => exact zd))
               | ((with_reducible refine Im.call (spec_l02Less.vi hG ?_ _ _) ?_ (fun r hr => ?_)); (next => omega); (next => exact zr))
               | ((with_reducible refine Im.call (spec_l02Part.vi hG ?_ _ _) ?_ (fun r hr => ?_)); (next => omega); (next => exact zr))
               | ((with_reducible refine ih1 _ ⟨_, _, _, _, _, _, _, _, _, _⟩ _ ?_ ?_); (next => exact zo); exact zr)
               | ((with_reducible refine Im.loop (S := fun s : Int × Int × Int × Int × List ByteArray × Int × Int × Int × List ByteArray => [.un, .un, .bx [.int s.2.1, .int s.2.2.1, .int s.2.2.2.1, .sl (s.2.2.2.2.1.map VV.str)], .bx [.int s.2.2.2.2.2.1, .int s.2.2.2.2.2.2.1, .int s.2.2.2.2.2.2.2.1, .sl (s.2.2.2.2.2.2.2.2.map VV.str)], .un, .un, .un, .int s.1, .un, .un, .un, .un, .un, .un, .un, .un, .un, .un, .un, .un, .un, .un, .un, .un, .un, .un, .un, .un, .un, .un, .un, .un, .un, .un, .un, .un, .un, .un, .un, .un, .un, .un, .un, .un, .un, .un, .un, .un, .un, .un, .un, .un, .un, .un, .un, .un, .un, .un, .un, .un, .un, .un, .un, .un, .un, .un, .un, .un, .un, .un, .un, .un, .un, .un, .un, .un, .un, .un, .un, .un, .un, .un, .un, .un, .un, .un, .un, .un, .un, .un]) (L := fun k s => spec_CompareVersion.l1 k s.1 s.2.1 s.2.2.1 s.2.2.2.1 s.2.2.2.2.1 s.2.2.2.2.2.1 s.2.2.2.2.2.2.1 s.2.2.2.2.2.2.2.1 s.2.2.2.2.2.2.2.2) _ ?_ ?_ _ _ ⟨_, _, _, _, _, _, _, _, _⟩ _ (Nat.le_refl _) zo ?_)
                  (next => intro s; rfl)
                  (next =>
                    intro k2 M2 ⟨x7, x165000, x165001, x165002, x165003, x166000, x166001, x166002, x166003⟩ hk2 hM2 ih2
                    conv => arg 2; simp only [spec_CompareVersion.l1]
                    repeat' first
                      | ((with_reducible refine Im.nat (fun k => spec_CompareVersion.j3 k _ _ _ _ _ _ _ _ _ _) _ ?_ (fun kj hkj => ?_)); (next => rfl); (conv => arg 2; simp only [spec_CompareVersion.j3, Bool.false_eq_true, reduceIte]))
                      | (with_reducible first | exact Im.none | refine Im.ite (fun h => ?_) (fun h => ?_) | refine Im.sbind ?_)
                      | ((conv => arg 3; whnf); first
                        | ((with_reducible refine Im.fin ?_); exact zr)
                        | ((with_reducible refine Im.anyo ?_ ?_); (next => kernel_rfl))
                        | ((with_reducible refine Im.bite_t ?_ ?_); (next => exact zq))
                        | ((with_reducible refine Im.bite_f ?_ ?_); (next => exact zq))
                        | ((with_reducible refine Im.bite_t ?_ ?_); (next => exact zd))
                        | ((with_reducible refine Im.must ?_ ?_); (next => exact zd))
                        | ((with_reducible refine Im.bite_f ?_ ?_); (next => exact zd))
                        | (with_reducible refine Im.byl ?_)
                        | ((with_reducible refine Im.vget ByteArray.empty ?_ ?_ ?_); (next => exact zd); (next => exact zd))
                        | ((with_reducible refine Im.vget z86 ?_ ?_ ?_); (next => exact zd); (next => exact zd))
                        | ((with_reducible refine Im.vget z133 ?_ ?_ ?_); (next => exact zd); (next => exact zd))
                        | ((with_reducible refine Im.vget (0 : Int) ?_ ?_ ?_); (next => exact zd); (next => exact zd))
                        | ((with_reducible refine Im.vget false ?_ ?_ ?_); (next => exact zd); (next => exact zd))
                        | ((with_reducible refine Im.call (spec_l02Less.vi hG ?_ _ _) ?_ (fun r hr => ?_)); (next => omega); (next => exact zr))
                        | ((with_reducible refine Im.call (spec_l02Part.vi hG ?_ _ _) ?_ (fun r hr => ?_)); (next => omega); (next => exact zr))
                        | ((with_reducible refine ih2 _ ⟨_, _, _, _, _, _, _, _, _⟩ _ ?_ ?_); (next => exact zo); exact zr)
                        | exact zm | exact zx | fail)
                    all_goals skip)
                  exact zr)
               | exact zm | exact zx | fail)
           all_goals skip)
         exact zr)
      | exact zm | exact zx | fail)
  all_goals skip
theorem spec_l03Takes.vi {k m : Nat} {Gv : FuncId → Option (List VV → Option (VV × List VV))} (hG : Base Gv) (hm : k + 7 ≤ m) (a0_0 : ByteArray) (a0_1 : ByteArray) (a1_0 : Int) (a1_1 : Int) (a1_2 : Int) (l1_3 : List ByteArray) : Im (fun r => (.bool r, [])) (spec_l03Takes.f k a0_0 a0_1 a1_0 a1_1 a1_2 l1_3) (callv Tryz.prog ti keep Gv m 108 [.ag [.str a0_0, .str a0_1], .ag [.int a1_0, .int a1_1, .int a1_2, .sl (l1_3.map VV.str)]]) := by
  obtain ⟨m, rfl⟩ : ∃ m', m = m' + 1 := ⟨m - 1, by omega⟩
  rw [show callv Tryz.prog ti keep Gv (m + 1) 108 _ = _ from callv_enter ((hG 108 (by decide)).trans rfl) Tryz.func108 (by kernel_rfl) rfl rfl]
  unfold spec_l03Takes.f
  conv => arg 3; whnf
  refine Im.call (spec_ReadVersion.vi hG ?_ _) ?_ (fun r1 hr1 => ?_)
  (next => omega)
  (next => exact zr)
  rcases r1 with ⟨a, b, c, p, f⟩
  conv => arg 3; whnf
  refine Im.call (spec_ReadVersion.vi hG ?_ _) ?_ (fun r2 hr2 => ?_)
  (next => omega)
  (next => exact zr)
  rcases r2 with ⟨a', b', c', p', f'⟩
  cases f <;> cases f'
  all_goals (conv => arg 2; simp only [Bool.false_eq_true, reduceIte])
  all_goals dsimp only
  repeat' first
    | ((with_reducible apply Im.vopc); (case h => (intro K'; (conv => lhs; whnf); done)))
    | (with_reducible first | exact Im.none | refine Im.ite (fun h => ?_) (fun h => ?_) | refine Im.sbind ?_)
    | ((conv => arg 3; whnf); first
      | ((with_reducible refine Im.fin ?_); exact zr)
      | ((with_reducible refine Im.anyo ?_ ?_); (next => kernel_rfl))
      | ((with_reducible refine Im.bite_t ?_ ?_); (next => exact zq))
      | ((with_reducible refine Im.bite_f ?_ ?_); (next => exact zq))
      | ((with_reducible refine Im.bite_t ?_ ?_); (next => exact zd))
      | ((with_reducible refine Im.must ?_ ?_); (next => exact zd))
      | ((with_reducible refine Im.bite_f ?_ ?_); (next => exact zd))
      | (with_reducible refine Im.byl ?_)
      | ((with_reducible refine Im.vget ByteArray.empty ?_ ?_ ?_); (next => exact zd); (next => exact zd))
      | ((with_reducible refine Im.vget z86 ?_ ?_ ?_); (next => exact zd); (next => exact zd))
      | ((with_reducible refine Im.vget z133 ?_ ?_ ?_); (next => exact zd); (next => exact zd))
      | ((with_reducible refine Im.vget (0 : Int) ?_ ?_ ?_); (next => exact zd); (next => exact zd))
      | ((with_reducible refine Im.vget false ?_ ?_ ?_); (next => exact zd); (next => exact zd))
      | ((with_reducible refine Im.call (spec_CompareVersion.vi hG ?_ _ _ _ _ _ _ _ _) ?_ (fun r hr => ?_)); (next => omega); (next => exact zr))
      | ((with_reducible refine Im.call (spec_ReadVersion.vi hG ?_ _) ?_ (fun r hr => ?_)); (next => omega); (next => exact zr))
      | exact zm | exact zx | fail)
  all_goals skip
theorem spec_In.vi {k m : Nat} {Gv : FuncId → Option (List VV → Option (VV × List VV))} (hG : Base Gv) (hm : k + 9 ≤ m) (a0 : ByteArray) (l1 : List (S86)) : Im (fun r => (.bool r, [])) (spec_In.f k a0 l1) (callv Tryz.prog ti keep Gv m 27 [.str a0, .sl (l1.map e86)]) := by
  obtain ⟨m, rfl⟩ : ∃ m', m = m' + 1 := ⟨m - 1, by omega⟩
  rw [show callv Tryz.prog ti keep Gv (m + 1) 27 _ = _ from callv_enter ((hG 27 (by decide)).trans rfl) Tryz.func27 (by kernel_rfl) rfl rfl]
  unfold spec_In.f
  repeat' first
    | (with_reducible first | exact Im.none | refine Im.ite (fun h => ?_) (fun h => ?_) | refine Im.sbind ?_)
    | ((conv => arg 3; whnf); first
      | ((with_reducible refine Im.fin ?_); exact zr)
      | ((with_reducible refine Im.anyo ?_ ?_); (next => kernel_rfl))
      | ((with_reducible refine Im.bite_t ?_ ?_); (next => exact zq))
      | ((with_reducible refine Im.bite_f ?_ ?_); (next => exact zq))
      | ((with_reducible refine Im.bite_t ?_ ?_); (next => exact zd))
      | ((with_reducible refine Im.must ?_ ?_); (next => exact zd))
      | ((with_reducible refine Im.bite_f ?_ ?_); (next => exact zd))
      | (with_reducible refine Im.byl ?_)
      | ((with_reducible refine Im.vget ByteArray.empty ?_ ?_ ?_); (next => exact zd); (next => exact zd))
      | ((with_reducible refine Im.vget z86 ?_ ?_ ?_); (next => exact zd); (next => exact zd))
      | ((with_reducible refine Im.vget z133 ?_ ?_ ?_); (next => exact zd); (next => exact zd))
      | ((with_reducible refine Im.vget (0 : Int) ?_ ?_ ?_); (next => exact zd); (next => exact zd))
      | ((with_reducible refine Im.vget false ?_ ?_ ?_); (next => exact zd); (next => exact zd))
      | ((with_reducible refine Im.call (spec_RangeOk.vi hG ?_ _) ?_ (fun r hr => ?_)); (next => omega); (next => exact zr))
      | ((with_reducible refine Im.call (spec_ReadVersion.vi hG ?_ _) ?_ (fun r hr => ?_)); (next => omega); (next => exact zr))
      | ((with_reducible refine Im.call (spec_l03Takes.vi hG ?_ _ _ _ _ _ _) ?_ (fun r hr => ?_)); (next => omega); (next => exact zr))
      | ((with_reducible refine Im.loop (S := fun s : List (S86) × Bool × Int × Int × Int × Int × List ByteArray => [.un, .sl (s.1.map e86), .un, .un, .un, .bx [.int s.2.2.2.1, .int s.2.2.2.2.1, .int s.2.2.2.2.2.1, .sl (s.2.2.2.2.2.2.map VV.str)], .bool s.2.1, .int s.2.2.1, .un, .un, .un, .un, .un, .un, .un, .un, .un, .un, .un, .un, .un, .un, .un, .un, .un, .un, .un, .un, .un, .un, .un, .un]) (L := fun k s => spec_In.l0 k s.1 s.2.1 s.2.2.1 s.2.2.2.1 s.2.2.2.2.1 s.2.2.2.2.2.1 s.2.2.2.2.2.2) _ ?_ ?_ _ _ ⟨_, _, _, _, _, _, _⟩ _ (Nat.le_refl _) zo ?_)
         (next => intro s; rfl)
         (next =>
           intro k1 M1 ⟨x1, x6, x7, x350000, x350001, x350002, x350003⟩ hk1 hM1 ih1
           conv => arg 2; simp only [spec_In.l0]
           repeat' first
             | (with_reducible first | exact Im.none | refine Im.ite (fun h => ?_) (fun h => ?_) | refine Im.sbind ?_)
             | ((conv => arg 3; whnf); first
               | ((with_reducible refine Im.fin ?_); exact zr)
               | ((with_reducible refine Im.anyo ?_ ?_); (next => kernel_rfl))
               | ((with_reducible refine Im.bite_t ?_ ?_); (next => exact zq))
               | ((with_reducible refine Im.bite_f ?_ ?_); (next => exact zq))
               | ((with_reducible refine Im.bite_t ?_ ?_); (next => exact zd))
               | ((with_reducible refine Im.must ?_ ?_); (next => exact zd))
               | ((with_reducible refine Im.bite_f ?_ ?_); (next => exact zd))
               | (with_reducible refine Im.byl ?_)
               | ((with_reducible refine Im.vget ByteArray.empty ?_ ?_ ?_); (next => exact zd); (next => exact zd))
               | ((with_reducible refine Im.vget z86 ?_ ?_ ?_); (next => exact zd); (next => exact zd))
               | ((with_reducible refine Im.vget z133 ?_ ?_ ?_); (next => exact zd); (next => exact zd))
               | ((with_reducible refine Im.vget (0 : Int) ?_ ?_ ?_); (next => exact zd); (next => exact zd))
               | ((with_reducible refine Im.vget false ?_ ?_ ?_); (next => exact zd); (next => exact zd))
               | ((with_reducible refine Im.call (spec_RangeOk.vi hG ?_ _) ?_ (fun r hr => ?_)); (next => omega); (next => exact zr))
               | ((with_reducible refine Im.call (spec_ReadVersion.vi hG ?_ _) ?_ (fun r hr => ?_)); (next => omega); (next => exact zr))
               | ((with_reducible refine Im.call (spec_l03Takes.vi hG ?_ _ _ _ _ _ _) ?_ (fun r hr => ?_)); (next => omega); (next => exact zr))
               | ((with_reducible refine ih1 _ ⟨_, _, _, _, _, _, _⟩ _ ?_ ?_); (next => exact zo); exact zr)
               | exact zm | exact zx | fail)
           all_goals skip)
         exact zr)
      | exact zm | exact zx | fail)
  all_goals skip
theorem spec_SortVersions.vi {k m : Nat} {Gv : FuncId → Option (List VV → Option (VV × List VV))} (hG : Base Gv) (hm : k + 7 ≤ m) (l0 : List ByteArray) : Im (fun r => (.ow 9 1 (r.map VV.str), [])) (spec_SortVersions.f k l0) (callv Tryz.prog ti keep Gv m 69 [.sl (l0.map VV.str)]) := by
  obtain ⟨m, rfl⟩ : ∃ m', m = m' + 1 := ⟨m - 1, by omega⟩
  rw [show callv Tryz.prog ti keep Gv (m + 1) 69 _ = _ from callv_enter ((hG 69 (by decide)).trans rfl) Tryz.func69 (by kernel_rfl) rfl rfl]
  unfold spec_SortVersions.f
  repeat' first
    | (with_reducible first | exact Im.none | refine Im.ite (fun h => ?_) (fun h => ?_) | refine Im.sbind ?_)
    | ((conv => arg 3; whnf); first
      | ((with_reducible refine Im.fin ?_); exact zr)
      | ((with_reducible refine Im.anyo ?_ ?_); (next => kernel_rfl))
      | ((with_reducible refine Im.bite_t ?_ ?_); (next => exact zq))
      | ((with_reducible refine Im.bite_f ?_ ?_); (next => exact zq))
      | ((with_reducible refine Im.bite_t ?_ ?_); (next => exact zd))
      | ((with_reducible refine Im.must ?_ ?_); (next => exact zd))
      | ((with_reducible refine Im.bite_f ?_ ?_); (next => exact zd))
      | (with_reducible refine Im.byl ?_)
      | ((with_reducible refine Im.vget ByteArray.empty ?_ ?_ ?_); (next => exact zd); (next => exact zd))
      | ((with_reducible refine Im.vget z86 ?_ ?_ ?_); (next => exact zd); (next => exact zd))
      | ((with_reducible refine Im.vget z133 ?_ ?_ ?_); (next => exact zd); (next => exact zd))
      | ((with_reducible refine Im.vget (0 : Int) ?_ ?_ ?_); (next => exact zd); (next => exact zd))
      | ((with_reducible refine Im.vget false ?_ ?_ ?_); (next => exact zd); (next => exact zd))
      | ((with_reducible refine Im.call (spec_CompareVersion.vi hG ?_ _ _ _ _ _ _ _ _) ?_ (fun r hr => ?_)); (next => omega); (next => exact zr))
      | ((with_reducible refine Im.call (spec_ReadVersion.vi hG ?_ _) ?_ (fun r hr => ?_)); (next => omega); (next => exact zr))
      | ((with_reducible refine Im.loop (S := fun s : List ByteArray × List ByteArray × Int => [.sl (s.1.map VV.str), .un, .un, .ow 9 1 (s.2.1.map VV.str), .int s.2.2, .un, .un, .un, .un, .un, .un, .un, .un, .un, .un, .un, .un, .un, .un, .un, .un, .un, .un, .un, .un, .un, .un, .un, .un, .un, .un, .un, .un, .un, .un, .un, .un, .un, .un, .un, .un, .un, .un, .un, .un, .un, .un, .un, .un, .un, .un, .un, .un, .un, .un, .un, .un, .un, .un, .un, .un, .un, .un, .un, .un, .un, .un, .un, .un, .un, .un, .un, .un, .un, .un, .un]) (L := fun k s => spec_SortVersions.l0 k s.1 s.2.1 s.2.2) _ ?_ ?_ _ _ ⟨_, _, _⟩ _ (Nat.le_refl _) zo ?_)
         (next => intro s; rfl)
         (next =>
           intro k1 M1 ⟨x0, x3, x4⟩ hk1 hM1 ih1
           conv => arg 2; simp only [spec_SortVersions.l0]
           repeat' first
             | (with_reducible first | exact Im.none | refine Im.ite (fun h => ?_) (fun h => ?_) | refine Im.sbind ?_)
             | ((conv => arg 3; whnf); first
               | ((with_reducible refine Im.fin ?_); exact zr)
               | ((with_reducible refine Im.anyo ?_ ?_); (next => kernel_rfl))
               | ((with_reducible refine Im.bite_t ?_ ?_); (next => exact zq))
               | ((with_reducible refine Im.bite_f ?_ ?_); (next => exact zq))
               | ((with_reducible refine Im.bite_t ?_ ?_); (next => exact zd))
               | ((with_reducible refine Im.must ?_ ?_); (next => exact zd))
               | ((with_reducible refine Im.bite_f ?_ ?_); (next => exact zd))
               | (with_reducible refine Im.byl ?_)
               | ((with_reducible refine Im.vget ByteArray.empty ?_ ?_ ?_); (next => exact zd); (next => exact zd))
               | ((with_reducible refine Im.vget z86 ?_ ?_ ?_); (next => exact zd); (next => exact zd))
               | ((with_reducible refine Im.vget z133 ?_ ?_ ?_); (next => exact zd); (next => exact zd))
               | ((with_reducible refine Im.vget (0 : Int) ?_ ?_ ?_); (next => exact zd); (next => exact zd))
               | ((with_reducible refine Im.vget false ?_ ?_ ?_); (next => exact zd); (next => exact zd))
               | ((with_reducible refine Im.call (spec_CompareVersion.vi hG ?_ _ _ _ _ _ _ _ _) ?_ (fun r hr => ?_)); (next => omega); (next => exact zr))
               | ((with_reducible refine Im.call (spec_ReadVersion.vi hG ?_ _) ?_ (fun r hr => ?_)); (next => omega); (next => exact zr))
               | ((with_reducible refine ih1 _ ⟨_, _, _⟩ _ ?_ ?_); (next => exact zo); exact zr)
               | ((with_reducible refine Im.loop (S := fun s : List ByteArray × List ByteArray × Int × Int × Int × Int × Int × List ByteArray => [.sl (s.1.map VV.str), .un, .un, .ow 9 1 (s.2.1.map VV.str), .int s.2.2.1, .bx [.int s.2.2.2.2.1, .int s.2.2.2.2.2.1, .int s.2.2.2.2.2.2.1, .sl (s.2.2.2.2.2.2.2.map VV.str)], .un, .int s.2.2.2.1, .un, .un, .un, .un, .un, .un, .un, .un, .un, .un, .un, .un, .un, .un, .un, .un, .un, .un, .un, .un, .un, .un, .un, .un, .un, .un, .un, .un, .un, .un, .un, .un, .un, .un, .un, .un, .un, .un, .un, .un, .un, .un, .un, .un, .un, .un, .un, .un, .un, .un, .un, .un, .un, .un, .un, .un, .un, .un, .un, .un, .un, .un, .un, .un, .un, .un, .un, .un]) (L := fun k s => spec_SortVersions.l1 k s.1 s.2.1 s.2.2.1 s.2.2.2.1 s.2.2.2.2.1 s.2.2.2.2.2.1 s.2.2.2.2.2.2.1 s.2.2.2.2.2.2.2) _ ?_ ?_ _ _ ⟨_, _, _, _, _, _, _, _⟩ _ (Nat.le_refl _) zo ?_)
                  (next => intro s; rfl)
                  (next =>
                    intro k2 M2 ⟨x0, x3, x4, x7, x900000, x900001, x900002, x900003⟩ hk2 hM2 ih2
                    conv => arg 2; simp only [spec_SortVersions.l1]
                    repeat' first
                      | ((with_reducible refine Im.nat (fun k => spec_SortVersions.j1 k _ _ _ _) _ ?_ (fun kj hkj => ?_)); (next => rfl); (conv => arg 2; simp only [spec_SortVersions.j1, Bool.false_eq_true, reduceIte]))
                      | (with_reducible first | exact Im.none | refine Im.ite (fun h => ?_) (fun h => ?_) | refine Im.sbind ?_)
                      | ((conv => arg 3; whnf); first
                        | ((with_reducible refine Im.fin ?_); exact zr)
                        | ((with_reducible refine Im.anyo ?_ ?_); (next => kernel_rfl))
                        | ((with_reducible refine Im.bite_t ?_ ?_); (next => exact zq))
                        | ((with_reducible refine Im.bite_f ?_ ?_); (next => exact zq))
                        | ((with_reducible refine Im.bite_t ?_ ?_); (next => exact zd))
                        | ((with_reducible refine Im.must ?_ ?_); (next => exact zd))
                        | ((with_reducible refine Im.bite_f ?_ ?_); (next => exact zd))
                        | (with_reducible refine Im.byl ?_)
                        | ((with_reducible refine Im.vget ByteArray.empty ?_ ?_ ?_); (next => exact zd); (next => exact zd))
                        | ((with_reducible refine Im.vget z86 ?_ ?_ ?_); (next => exact zd); (next => exact zd))
                        | ((with_reducible refine Im.vget z133 ?_ ?_ ?_); (next => exact zd); (next => exact zd))
                        | ((with_reducible refine Im.vget (0 : Int) ?_ ?_ ?_); (next => exact zd); (next => exact zd))
                        | ((with_reducible refine Im.vget false ?_ ?_ ?_); (next => exact zd); (next => exact zd))
                        | ((with_reducible refine Im.call (spec_CompareVersion.vi hG ?_ _ _ _ _ _ _ _ _) ?_ (fun r hr => ?_)); (next => omega); (next => exact zr))
                        | ((with_reducible refine Im.call (spec_ReadVersion.vi hG ?_ _) ?_ (fun r hr => ?_)); (next => omega); (next => exact zr))
                        | ((with_reducible refine ih1 _ ⟨_, _, _⟩ _ ?_ ?_); (next => exact zo); exact zr)
                        | ((with_reducible refine ih2 _ ⟨_, _, _, _, _, _, _, _⟩ _ ?_ ?_); (next => exact zo); exact zr)
                        | exact zm | exact zx | fail)
                    all_goals skip)
                  exact zr)
               | exact zm | exact zx | fail)
           all_goals skip)
         exact zr)
      | exact zm | exact zx | fail)
  all_goals skip
theorem spec_Pick.vi {k m : Nat} {Gv : FuncId → Option (List VV → Option (VV × List VV))} (hG : Base Gv) (hm : k + 10 ≤ m) (l0 : List ByteArray) (l1 : List (S86)) : Im (fun r => (.str r, [])) (spec_Pick.f k l0 l1) (callv Tryz.prog ti keep Gv m 80 [.sl (l0.map VV.str), .sl (l1.map e86)]) := by
  obtain ⟨m, rfl⟩ : ∃ m', m = m' + 1 := ⟨m - 1, by omega⟩
  rw [show callv Tryz.prog ti keep Gv (m + 1) 80 _ = _ from callv_enter ((hG 80 (by decide)).trans rfl) Tryz.func80 (by kernel_rfl) rfl rfl]
  unfold spec_Pick.f
  repeat' first
    | (with_reducible first | exact Im.none | refine Im.ite (fun h => ?_) (fun h => ?_) | refine Im.sbind ?_)
    | ((conv => arg 3; whnf); first
      | ((with_reducible refine Im.fin ?_); exact zr)
      | ((with_reducible refine Im.anyo ?_ ?_); (next => kernel_rfl))
      | ((with_reducible refine Im.bite_t ?_ ?_); (next => exact zq))
      | ((with_reducible refine Im.bite_f ?_ ?_); (next => exact zq))
      | ((with_reducible refine Im.bite_t ?_ ?_); (next => exact zd))
      | ((with_reducible refine Im.must ?_ ?_); (next => exact zd))
      | ((with_reducible refine Im.bite_f ?_ ?_); (next => exact zd))
      | (with_reducible refine Im.byl ?_)
      | ((with_reducible refine Im.vget ByteArray.empty ?_ ?_ ?_); (next => exact zd); (next => exact zd))
      | ((with_reducible refine Im.vget z86 ?_ ?_ ?_); (next => exact zd); (next => exact zd))
      | ((with_reducible refine Im.vget z133 ?_ ?_ ?_); (next => exact zd); (next => exact zd))
      | ((with_reducible refine Im.vget (0 : Int) ?_ ?_ ?_); (next => exact zd); (next => exact zd))
      | ((with_reducible refine Im.vget false ?_ ?_ ?_); (next => exact zd); (next => exact zd))
      | ((with_reducible refine Im.call (spec_In.vi hG ?_ _ _) ?_ (fun r hr => ?_)); (next => omega); (next => exact zr))
      | ((with_reducible refine Im.call (spec_SortVersions.vi hG ?_ _) ?_ (fun r hr => ?_)); (next => omega); (next => exact zr))
      | ((with_reducible refine Im.loop (S := fun s : List (S86) × List ByteArray × ByteArray × Int => [.un, .sl (s.1.map e86), .un, .un, .un, .ow 9 1 (s.2.1.map VV.str), .str s.2.2.1, .int s.2.2.2, .un, .un, .un, .un, .un, .un, .un, .un, .un, .un, .un, .un, .un, .un, .un, .un, .un, .un, .un]) (L := fun k s => spec_Pick.l0 k s.1 s.2.1 s.2.2.1 s.2.2.2) _ ?_ ?_ _ _ ⟨_, _, _, _⟩ _ (Nat.le_refl _) zo ?_)
         (next => intro s; rfl)
         (next =>
           intro k1 M1 ⟨x1, x5, x6, x7⟩ hk1 hM1 ih1
           conv => arg 2; simp only [spec_Pick.l0]
           repeat' first
             | (with_reducible first | exact Im.none | refine Im.ite (fun h => ?_) (fun h => ?_) | refine Im.sbind ?_)
             | ((conv => arg 3; whnf); first
               | ((with_reducible refine Im.fin ?_); exact zr)
               | ((with_reducible refine Im.anyo ?_ ?_); (next => kernel_rfl))
               | ((with_reducible refine Im.bite_t ?_ ?_); (next => exact zq))
               | ((with_reducible refine Im.bite_f ?_ ?_); (next => exact zq))
               | ((with_reducible refine Im.bite_t ?_ ?_); (next => exact zd))
               | ((with_reducible refine Im.must ?_ ?_); (next => exact zd))
               | ((with_reducible refine Im.bite_f ?_ ?_); (next => exact zd))
               | (with_reducible refine Im.byl ?_)
               | ((with_reducible refine Im.vget ByteArray.empty ?_ ?_ ?_); (next => exact zd); (next => exact zd))
               | ((with_reducible refine Im.vget z86 ?_ ?_ ?_); (next => exact zd); (next => exact zd))
               | ((with_reducible refine Im.vget z133 ?_ ?_ ?_); (next => exact zd); (next => exact zd))
               | ((with_reducible refine Im.vget (0 : Int) ?_ ?_ ?_); (next => exact zd); (next => exact zd))
               | ((with_reducible refine Im.vget false ?_ ?_ ?_); (next => exact zd); (next => exact zd))
               | ((with_reducible refine Im.call (spec_In.vi hG ?_ _ _) ?_ (fun r hr => ?_)); (next => omega); (next => exact zr))
               | ((with_reducible refine Im.call (spec_SortVersions.vi hG ?_ _) ?_ (fun r hr => ?_)); (next => omega); (next => exact zr))
               | ((with_reducible refine ih1 _ ⟨_, _, _, _⟩ _ ?_ ?_); (next => exact zo); exact zr)
               | exact zm | exact zx | fail)
           all_goals skip)
         exact zr)
      | exact zm | exact zx | fail)
  all_goals skip
theorem laws_FnExactPick.vi {k m : Nat} {Gv : FuncId → Option (List VV → Option (VV × List VV))} (hG : Base Gv) (hL71 : Gv 71 = some impl_SortVersions.gv) (hm : k + 12 ≤ m) (l0 : List ByteArray) (l1 : List (S133)) : Im (fun r => (.bool r, [])) (laws_FnExactPick.f k l0 l1) (callv Tryz.prog ti keep Gv m 8 [.sl (l0.map VV.str), .sl (l1.map e133)]) := by
  obtain ⟨m, rfl⟩ : ∃ m', m = m' + 1 := ⟨m - 1, by omega⟩
  rw [show callv Tryz.prog ti keep Gv (m + 1) 8 _ = _ from callv_enter ((hG 8 (by decide)).trans rfl) Tryz.func8 (by kernel_rfl) rfl rfl]
  unfold laws_FnExactPick.f
  repeat' first
    | (with_reducible first | exact Im.none | refine Im.ite (fun h => ?_) (fun h => ?_) | refine Im.sbind ?_)
    | ((conv => arg 3; whnf); first
      | ((with_reducible refine Im.fin ?_); exact zr)
      | ((with_reducible refine Im.anyo ?_ ?_); (next => kernel_rfl))
      | ((with_reducible refine Im.bite_t ?_ ?_); (next => exact zq))
      | ((with_reducible refine Im.bite_f ?_ ?_); (next => exact zq))
      | ((with_reducible refine Im.bite_t ?_ ?_); (next => exact zd))
      | ((with_reducible refine Im.must ?_ ?_); (next => exact zd))
      | ((with_reducible refine Im.bite_f ?_ ?_); (next => exact zd))
      | (with_reducible refine Im.byl ?_)
      | ((with_reducible refine Im.vget ByteArray.empty ?_ ?_ ?_); (next => exact zd); (next => exact zd))
      | ((with_reducible refine Im.vget z86 ?_ ?_ ?_); (next => exact zd); (next => exact zd))
      | ((with_reducible refine Im.vget z133 ?_ ?_ ?_); (next => exact zd); (next => exact zd))
      | ((with_reducible refine Im.vget (0 : Int) ?_ ?_ ?_); (next => exact zd); (next => exact zd))
      | ((with_reducible refine Im.vget false ?_ ?_ ?_); (next => exact zd); (next => exact zd))
      | ((with_reducible refine Im.call (impl_Pick.vi hG hL71 ?_ _ _) ?_ (fun r hr => ?_)); (next => omega); (next => exact zr))
      | ((with_reducible refine Im.call (laws_eqBoundS.vi hG ?_ _ _) ?_ (fun r hr => ?_)); (next => omega); (next => exact zr))
      | ((with_reducible refine Im.call (laws_eqStringS.vi hG ?_ _ _) ?_ (fun r hr => ?_)); (next => omega); (next => exact zr))
      | ((with_reducible refine Im.call (laws_szBoundS.vi hG ?_ _ _) ?_ (fun r hr => ?_)); (next => omega); (next => exact zr))
      | ((with_reducible refine Im.call (laws_szStringS.vi hG ?_ _ _) ?_ (fun r hr => ?_)); (next => omega); (next => exact zr))
      | ((with_reducible refine Im.call (laws_toBoundS.vi hG ?_ _) ?_ (fun r hr => ?_)); (next => omega); (next => exact zr))
      | ((with_reducible refine Im.call (laws_toStringS.vi hG ?_ _) ?_ (fun r hr => ?_)); (next => omega); (next => exact zr))
      | ((with_reducible refine Im.call (spec_Pick.vi hG ?_ _ _) ?_ (fun r hr => ?_)); (next => omega); (next => exact zr))
      | exact zm | exact zx | fail)
  all_goals skip
end Go.Proofs.YtcfeihimmboghaaGreatDoor.VI

end
section
namespace Go.Proofs.YtcfeihimmboghaaGreatDoor.G
open Go Go.RowKit Go.Proofs.YtcfeihimmboghaaGreatDoorW.PrintWords Go.Proofs.YtcfeihimmboghaaGreatDoor.VI
set_option maxRecDepth 100000
set_option linter.unusedVariables false
set_option linter.unusedSimpArgs false
theorem laws_FnExactPick.calls (k : Nat) (A0 : Option Addr) (c0 : Nat) (l0 : List ByteArray) (A1 : Option Addr) (c1 : Nat) (l1 : List (S133)) (r : Bool) (w : World) (hr0 : Kd.C Kd.string w A0 l0.length l0) (hc0 : l0.length ≤ c0) (hr1 : Kd.C k133 w A1 l1.length l1) (hc1 : l1.length ≤ c1) (hGE : Glob FactE w) (hGM : Glob FactM w) (hGT : Glob FactT w) (hr_ : r = true) (h : laws_FnExactPick.f k l0 l1 = some r) :
  Calls Tryz.prog 8 #[.slice A0 l0.length c0, .slice A1 l1.length c1] w fun e w' => e = .returned (.bool r) ∧ Below w.heap.size w w' := by
  have gws : ∀ a b, Below w.heap.size w a → Below w.heap.size a b → Below w.heap.size w b := fun a b h1 h2 => h1.trans h2
  have hok := callv_ok (P := Tryz.prog) (NG := w.heap.size) (GW := fun a => Below w.heap.size w a) VI.hti gws (keep := keep) (Gv := Gv) (given_ok hGE hGM hGT) (fun C hC hc => any_sound (by kernel_rfl) (by rw [hC]; exact VI.hti) gws hc) (k + 12)
  exact CallOk1.calls (hok 8 _ _ rfl (laws_FnExactPick.vi (k := k) (m := k + 12) base1 rfl (Nat.le_refl _) l0 l1 _ h)) (Below.refl _ _) (Nat.le_refl _) (.cons _ _ _ _ (dr_row (enc := VV.str) kv_string hc0 hr0) (.cons _ _ _ _ (dr_row (enc := e133) kv133 hc1 hr1) .nil))
end Go.Proofs.YtcfeihimmboghaaGreatDoor.G

end
section
namespace Go.Proofs.YtcfeihimmboghaaGreatDoor.U
open Go Go.RowKit Go.Proofs.YtcfeihimmboghaaGreatDoorW.PrintWords Go.Proofs.YtcfeihimmboghaaGreatDoor.G
set_option linter.unusedVariables false
set_option linter.unusedSimpArgs false
theorem ins_take (s : B) : ∀ (j : Nat) (out : List B), (∀ w ∈ out.take j, cmpS w s < 0) → ins cmpS s out = out.take j ++ ins cmpS s (out.drop j)
  | 0, out, _ => by simp
  | j + 1, [], _ => by simp
  | j + 1, w :: r, h => by
    rw [ins, if_pos (h w (by simp)), ins_take s j r fun x hx => h x (by simp [hx])]
    simp
theorem rd_S (out : List B) (j : Nat) (h : j < out.length) : rdOf ByteArray.empty (out.map S) (j : Int) = S (out.getD j []) := by
  unfold rdOf
  rw [List.getD_eq_getElem?_getD, List.getD_eq_getElem?_getD]
  simp [h]
theorem splice (out : List B) (s : ByteArray) (j : Nat) (hj : j ≤ out.length) : ([] ++ ((out.map S).take ((j : Int)).toNat).drop (Int.toNat 0)) ++ [s] ++ ((out.map S).take (Int.toNat ((out.map S).length : Int))).drop ((j : Int)).toNat = (out.take j ++ L s :: out.drop j).map S := by
  rw [Int.toNat_natCast, Int.toNat_natCast, List.take_length, List.nil_append]
  simp [List.map_take, List.map_drop]
theorem sort_ins (l : List ByteArray) (hl : l.length ≤ 1048576) (i : Nat) (hi : i < l.length) (out : List B) (hol : out.length ≤ 1048576) (ho : ∀ w ∈ out, w.length ≤ 1048576) {r : List ByteArray}
    (h : Ev (fun k => spec_SortVersions.l0 k l ((ins cmpS (L (l.getD i ByteArray.empty)) out).map S) ((i + 1 : Nat) : Int)) r) : ∀ e j, j + e = out.length → (∀ w ∈ out.take j, cmpS w (L (l.getD i ByteArray.empty)) < 0) →
    Ev (fun k => spec_SortVersions.l1 k l (out.map S) (i : Int) (j : Int) (readVer (L (l.getD i ByteArray.empty))).1 (readVer (L (l.getD i ByteArray.empty))).2.1 (readVer (L (l.getD i ByteArray.empty))).2.2.1 (readVer (L (l.getD i ByteArray.empty))).2.2.2.1) r := by
  have es : rdOf ByteArray.empty l (i : Int) = l.getD i ByteArray.empty := rfl
  generalize hs : l.getD i ByteArray.empty = s at *
  have hml : (out.map S).length = out.length := List.length_map ..
  intro e
  induction e with
  | zero =>
    intro j hj hlt
    have hins : ins cmpS (L s) out = out.take j ++ L s :: out.drop j := by
      rw [ins_take (L s) j out hlt, List.drop_of_length_le (by omega)]; rfl
    rw [hins, ← splice out s j (by omega)] at h
    refine Ev.step (f := fun k => spec_SortVersions.j1 k l (out.map S) (i : Int) (j : Int)) (fun k => by rw [spec_SortVersions.l1, if_neg (by omega)]) ?_
    refine Ev.step (fun k => by rw [spec_SortVersions.j1, if_neg (by omega), if_pos (by omega), if_pos (by omega), if_pos (by omega), if_pos (by omega), if_pos (by omega), es, wa1 i (by omega)]) ?_
    exact h
  | succ e ih =>
    intro j hj hlt
    have hjl : j < out.length := by omega
    have hw := ho _ (getD_mem out j [] hjl)
    refine Ev.step (fun k => by rw [spec_SortVersions.l1, if_pos (by omega), if_pos (by omega), rd_S out j hjl, wa1 j (by omega)]) ?_
    have hrv := spec_ReadVersion_ev (S (out.getD j [])) (by rw [size_S]; exact hw)
    rw [L_S] at hrv
    refine Ev.bind hrv (Ev.bind (spec_compare_ev (out.getD j []) (L s)) ?_)
    have hdrop := drop_getD out j [] hjl
    by_cases hc : cmpS (out.getD j []) (L s) < 0
    · refine ev_neg (by omega) (ih (j + 1) (by omega) fun w hw' => ?_)
      rw [List.take_succ_eq_append_getElem hjl, List.mem_append, List.mem_singleton] at hw'
      rcases hw' with hw' | rfl
      · exact hlt w hw'
      · rw [List.getD_eq_getElem?_getD, List.getElem?_eq_getElem hjl] at hc; exact hc
    · refine ev_pos (by omega) ?_
      by_cases he : out.getD j [] = L s
      · have hins : ins cmpS (L s) out = out := by
          rw [ins_take (L s) j out hlt, hdrop, ins, if_neg hc, if_pos he, ← hdrop]
          exact List.take_append_drop j out
        rw [hins] at h
        refine Ev.step (fun k => by rw [spec_SortVersions.j1, if_pos (by omega), if_pos (by omega), if_pos (by omega), if_pos (by omega), es, rd_S out j hjl, if_pos (by rw [toList_L, toList_L, L_S]; exact he), wa1 i (by omega)]) ?_
        exact h
      · have hins : ins cmpS (L s) out = out.take j ++ L s :: out.drop j := by
          rw [ins_take (L s) j out hlt, hdrop, ins, if_neg hc, if_neg he]
        rw [hins, ← splice out s j (by omega)] at h
        refine Ev.step (fun k => by rw [spec_SortVersions.j1, if_pos (by omega), if_pos (by omega), if_pos (by omega), if_pos (by omega), es, rd_S out j hjl, if_neg (by rw [toList_L, toList_L, L_S]; exact he), if_pos (by omega), if_pos (by omega), if_pos (by omega), if_pos (by omega), if_pos (by omega), wa1 i (by omega)]) ?_
        exact h
theorem ins_len (s : B) : ∀ out : List B, (ins cmpS s out).length ≤ out.length + 1
  | [] => by simp [ins]
  | w :: r => by
    rw [ins]
    split
    · have := ins_len s r; simp only [List.length_cons]; omega
    · split <;> simp
theorem spec_SortVersions_ev (l : List ByteArray) (hl : l.length ≤ 1048576) (hs : ∀ x ∈ l, x.size ≤ 1048576) : Ev (fun k => spec_SortVersions.f k l) ((sorted cmpS ((l.map L).filter isVer)).map S) := by
  unfold spec_SortVersions.f sorted
  have key : ∀ d i (out : List B), i + d = l.length → out.length ≤ i → (∀ w ∈ out, w.length ≤ 1048576) → Ev (fun k => spec_SortVersions.l0 k l (out.map S) (i : Int)) (((((l.drop i).map L).filter isVer).foldl (fun o s => ins cmpS s o) out).map S) := by
    intro d
    induction d with
    | zero =>
      intro i out hi ho hw
      rw [List.drop_of_length_le (by omega)]
      exact Ev.step (f := fun _ => some (out.map S)) (fun k => by rw [spec_SortVersions.l0, if_neg (by omega)]) (Ev.now _)
    | succ d ih =>
      intro i out hi ho hw
      have hlt : i < l.length := by omega
      have hm := hs _ (getD_mem l i ByteArray.empty hlt)
      have es : rdOf ByteArray.empty l (i : Int) = l.getD i ByteArray.empty := rfl
      rw [drop_getD l i ByteArray.empty hlt, List.map_cons]
      refine Ev.step (fun k => by rw [spec_SortVersions.l0, if_pos (by omega), if_pos (by omega), es, wa1 i (by omega)]) ?_
      refine Ev.bind (spec_ReadVersion_ev _ hm) ?_
      by_cases h : isVer (L (l.getD i ByteArray.empty)) = true
      · rw [List.filter_cons_of_pos h, List.foldl_cons]
        refine ev_pos h ?_
        have go := ih (i + 1) (ins cmpS (L (l.getD i ByteArray.empty)) out) (by omega) (by have := ins_len (L (l.getD i ByteArray.empty)) out; omega) (fun w hx => by
          rcases (mem_ins _ _ _).1 hx with rfl | hx
          · have := size_L (l.getD i ByteArray.empty); omega
          · exact hw w hx)
        exact sort_ins l hl i hlt out (by omega) hw go out.length 0 (by omega) (fun w hx => by simp at hx)
      · rw [List.filter_cons_of_neg h]
        exact ev_neg h (ih (i + 1) out (by omega) (by omega) hw)
  have := key l.length 0 [] (by omega) (by simp) (fun w hx => by simp at hx)
  rw [List.drop_zero] at this
  exact this
theorem sorted_ver (l : List ByteArray) (hs : ∀ x ∈ l, x.size ≤ 1048576) : ∀ x ∈ (sorted cmpS ((l.map L).filter isVer)).map S, isVer (L x) = true ∧ x.size ≤ 1048576 := by
  intro x hx
  obtain ⟨y, hy, rfl⟩ := List.mem_map.1 hx
  have hm := ((sorted_is cmpS_keyed ((l.map L).filter isVer) (fun a ha b hb h => cmpS_inj (List.mem_filter.1 ha).2 (List.mem_filter.1 hb).2 h)).2 y).1 hy
  obtain ⟨h1, h2⟩ := List.mem_filter.1 hm
  obtain ⟨z, hz, rfl⟩ := List.mem_map.1 h1
  exact ⟨by rw [L_S]; exact h2, by rw [S_L]; exact hs z hz⟩
theorem sorted_len (l : List B) : (sorted cmpS l).length ≤ l.length := by
  have : ∀ (l o : List B), (l.foldl (fun out s => ins cmpS s out) o).length ≤ l.length + o.length := by
    intro l
    induction l with
    | nil => intro o; simp
    | cons s l ih =>
      intro o
      have h1 := ih (ins cmpS s o)
      have h2 := ins_len s o
      rw [List.foldl_cons, List.length_cons]; omega
  exact this l []
theorem sorted_small (l : List ByteArray) (hl : l.length ≤ 1048576) : ((sorted cmpS ((l.map L).filter isVer)).map S).length ≤ 1048577 := by
  have h1 := sorted_len ((l.map L).filter isVer)
  have h2 := List.length_filter_le isVer (l.map L)
  rw [List.length_map] at h2 ⊢; omega
def bOk (b : S86) : Bool := verOr (L b.f0) && verOr (L b.f1)
def rangeOk (l : List S86) : Bool := l.all bOk && decide (1 ≤ l.length ∧ l.length ≤ 8)
theorem rangeOk_is {l : List S86} (h : rangeOk l = true) : (∀ b ∈ l, (L b.f0).length ≤ 135 ∧ (L b.f1).length ≤ 135) ∧ 1 ≤ l.length ∧ l.length ≤ 8 := by
  unfold rangeOk at h
  simp only [Bool.and_eq_true, List.all_eq_true, decide_eq_true_eq] at h
  refine ⟨fun b hb => ?_, h.2⟩
  have := h.1 b hb
  unfold bOk at this
  rw [Bool.and_eq_true] at this
  exact ⟨verOr_len this.1, verOr_len this.2⟩
theorem spec_l03Is_ev (s : ByteArray) (hs : s.size ≤ 1048576) : Ev (fun k => spec_l03Is.f k s) (verOr (L s)) := by
  unfold spec_l03Is.f verOr isVer
  refine Ev.bind (spec_ReadVersion_ev s hs) ?_
  rw [toList_L]
  by_cases h : (readVer (L s)).2.2.2.2 = true
  · rw [h]; exact ev_pos rfl (Ev.now _)
  · refine ev_use (ev_neg h (Ev.now _)) ?_
    simp only [Bool.not_eq_true] at h; rw [h]; rfl
theorem impl_isVersion_ev (s : ByteArray) (hs : s.size ≤ 1048576) : Ev (fun k => impl_isVersion.f k s) (isVer (L s)) := by
  unfold impl_isVersion.f isVer
  exact Ev.bind (impl_ReadVersion_ev s hs) (Ev.now _)
theorem spec_RangeOk_ev (l : List S86) (hl : l.length ≤ 1048576) (hs : ∀ b ∈ l, b.f0.size ≤ 1048576 ∧ b.f1.size ≤ 1048576) : Ev (fun k => spec_RangeOk.f k l) (rangeOk l) := by
  refine all_loop l z86 bOk _ (fun k i => spec_RangeOk.l0 k l i) ?_ ?_
  · refine Ev.step (f := fun k => some (decide (1 ≤ l.length ∧ l.length ≤ 8))) (fun k => ?_) (Ev.now _)
    show spec_RangeOk.l0 (k + 1) l _ = _
    rw [spec_RangeOk.l0, if_neg (by omega), spec_l01In_eq, Option.bind_some]
    congr 1
    by_cases h : 1 ≤ l.length ∧ l.length ≤ 8
    · rw [decide_eq_true h, decide_eq_true (by omega)]
    · rw [decide_eq_false h, decide_eq_false (by omega)]
  · intro i r hi hr
    have hm := hs _ (getD_mem l i z86 hi)
    have ee : rd_T86 l (i : Int) = l.getD i z86 := rfl
    refine Ev.step (f := fun k => (spec_l03Is.f k (l.getD i z86).f0).bind fun t => if t = true then ((spec_l03Is.f k (l.getD i z86).f1).bind fun u => if u = true then spec_RangeOk.l0 k l ((i + 1 : Nat) : Int) else some false) else some false) (fun k => ?_) ?_
    · show spec_RangeOk.l0 (k + 1) l _ = _
      rw [spec_RangeOk.l0, if_pos (by omega), if_pos (by omega), ee, wa1 i (by omega)]
    · generalize l.getD i z86 = b at hm ⊢
      unfold bOk
      refine Ev.bind (spec_l03Is_ev b.f0 hm.1) ?_
      by_cases h0 : verOr (L b.f0) = true
      · rw [h0, Bool.true_and]
        refine ev_pos rfl (Ev.bind (spec_l03Is_ev b.f1 hm.2) ?_)
        by_cases h1 : verOr (L b.f1) = true
        · rw [h1, Bool.true_and]; exact ev_pos rfl hr
        · simp only [Bool.not_eq_true] at h1; rw [h1]; exact ev_neg (by simp) (Ev.now _)
      · simp only [Bool.not_eq_true] at h0; rw [h0]; exact ev_neg (by simp) (Ev.now _)
theorem ask_end {s : ByteArray} (hs : s.size ≤ 1048576) {f : Nat → Option Bool} {r : Bool} (hr : Ev f r) : Ev (fun k => if s.toList = ([] : List UInt8) then f k else (impl_isVersion.f k s).bind fun t => if t = true then f k else some false) (verOr (L s) && r) := by
  rw [toList_L]
  unfold verOr
  by_cases h : L s = []
  · have : (L s == ([] : B)) = true := beq_iff_eq.2 h
    rw [this, Bool.or_true, Bool.true_and]; exact ev_pos h hr
  · have : (L s == ([] : B)) = false := beq_eq_false_iff_ne.2 h
    rw [this, Bool.or_false]
    refine ev_neg h (Ev.bind (impl_isVersion_ev s hs) ?_)
    by_cases h1 : isVer (L s) = true
    · rw [h1, Bool.true_and]; exact ev_pos rfl hr
    · simp only [Bool.not_eq_true] at h1; rw [h1]; exact ev_neg (by simp) (Ev.now _)
theorem impl_RangeOk_ev (l : List S86) (hl : l.length ≤ 1048576) (hs : ∀ b ∈ l, b.f0.size ≤ 1048576 ∧ b.f1.size ≤ 1048576) : Ev (fun k => impl_RangeOk.f k l) (rangeOk l) := by
  refine all_loop l z86 bOk _ (fun k i => impl_RangeOk.l0 k l l (l.length : Int) i) ?_ ?_
  · refine Ev.step (f := fun k => some (decide (1 ≤ l.length ∧ l.length ≤ 8))) (fun k => ?_) (Ev.now _)
    show impl_RangeOk.l0 (k + 1) l l _ _ = _
    rw [impl_RangeOk.l0, if_neg (by omega), impl_within_eq, Option.bind_some]
    congr 1
    by_cases h : 1 ≤ l.length ∧ l.length ≤ 8
    · rw [decide_eq_true h, decide_eq_true (by omega)]
    · rw [decide_eq_false h, decide_eq_false (by omega)]
  · intro i r hi hr
    have hm := hs _ (getD_mem l i z86 hi)
    have ee : rd_T86 l (i : Int) = l.getD i z86 := rfl
    refine ev_use (Ev.step (fun k => ?_) (ask_end hm.1 (ask_end hm.2 hr))) (by unfold bOk; rw [Bool.and_assoc])
    show impl_RangeOk.l0 (k + 1) l l _ _ = _
    rw [impl_RangeOk.l0, if_pos (by omega), if_pos (by omega), if_pos (by omega), ee, wa1 i (by omega)]
end Go.Proofs.YtcfeihimmboghaaGreatDoor.U

end
