/- A part of the proof that the law FnTexts answers true at every input that its row speaks of. Conditions: the row's own. -/
import Derived.Test.YtbfbomcfmgdpkaaGreatDoorMFnTexts2
import Derived.Test.YtbfbomcfmgdpkaaGreatDoorKFnTexts1
import Derived.Test.YtbfbomcfmgdpkaaGreatDoorKFnTexts0
import Derived.Test.YtbfbomcfmgdpkaaGreatDoorMFnTexts6
import Derived.Test.YtbfbomcfmgdpkaaGreatDoorMFnTexts0
import Derived.Test.YtbfbomcfmgdpkaaGreatDoorVMore
import Derived.Lib.Strings
import Derived.Laws.BitsLemmas
import Derived.Lib.Bytealg
section
namespace Go.Proofs.YtbfbomcfmgdpkaaGreatDoor.VI
open Go Go.RowKit Go.Proofs.YtbfbomcfmgdpkaaGreatDoor.G Go.Proofs.YtbfbomcfmgdpkaaGreatDoorW.PrintWords
set_option maxRecDepth 100000
set_option maxHeartbeats 16000000
attribute [local irreducible] bite obind vget
theorem impl_PlainOk_1.vi {m : Nat} {Gv : FuncId → Option (List VV → Option (VV × List VV))} (hG : Base Gv) (hm : 1 ≤ m) (a0 : Int) : Im (fun r => (.bool r, [])) (impl_PlainOk_1.f a0) (callv Tryz.prog ti keep Gv m 97 [.byte a0]) := by
  obtain ⟨m, rfl⟩ : ∃ m', m = m' + 1 := ⟨m - 1, by omega⟩
  rw [show callv Tryz.prog ti keep Gv (m + 1) 97 _ = _ from callv_enter ((hG 97 (by decide) (by decide) (by decide) (by decide) (by decide) (by decide) (by decide) (by decide) (by decide) (by decide) (by decide) (by decide) (by decide) (by decide) (by decide) (by decide) (by decide)).trans rfl) Tryz.func97 (by kernel_rfl) rfl rfl]
  unfold impl_PlainOk_1.f
  repeat' first
    | (with_reducible first | exact Im.none | refine Im.ite (fun h => ?_) (fun h => ?_) | refine Im.sbind ?_)
    | ((conv => arg 3; whnf); first
      | ((with_reducible refine Im.fin ?_); exact zr)
      | ((with_reducible refine Im.anyo ?_ ?_); (next => kernel_rfl))
      | ((with_reducible refine Im.bite_t ?_ ?_); (next => exact zq))
      | ((with_reducible refine Im.bite_f ?_ ?_); (next => exact zq))
      | ((with_reducible refine Im.bite_t ?_ ?_); (next => exact zd))
      | ((with_reducible refine Im.must ?_ ?_); (next => exact zd))
      | ((with_reducible refine Im.bite_f ?_ ?_); (next => exact zd))
      | (with_reducible refine Im.byl ?_)
      | ((with_reducible refine Im.vget ByteArray.empty ?_ ?_ ?_); (next => exact zd); (next => exact zd))
      | ((with_reducible refine Im.vget (0 : Int) ?_ ?_ ?_); (next => exact zd); (next => exact zd))
      | ((with_reducible refine Im.vget false ?_ ?_ ?_); (next => exact zd); (next => exact zd))
      | exact zm | exact zx | fail)
  all_goals skip
theorem impl_all__impl_PlainOk_1.vi {k m : Nat} {Gv : FuncId → Option (List VV → Option (VV × List VV))} (hG : Base Gv) (hm : k + 2 ≤ m) (a0 : ByteArray) : Im (fun r => (.bool r, [])) (impl_all__impl_PlainOk_1.f k a0) (callv Tryz.prog ti keep Gv m 92 [.str a0, .cl 97 []]) := by
  obtain ⟨m, rfl⟩ : ∃ m', m = m' + 1 := ⟨m - 1, by omega⟩
  rw [show callv Tryz.prog ti keep Gv (m + 1) 92 _ = _ from callv_enter ((hG 92 (by decide) (by decide) (by decide) (by decide) (by decide) (by decide) (by decide) (by decide) (by decide) (by decide) (by decide) (by decide) (by decide) (by decide) (by decide) (by decide) (by decide)).trans rfl) Tryz.func92 (by kernel_rfl) rfl rfl]
  unfold impl_all__impl_PlainOk_1.f
  repeat' first
    | (with_reducible first | exact Im.none | refine Im.ite (fun h => ?_) (fun h => ?_) | refine Im.sbind ?_)
    | ((conv => arg 3; whnf); first
      | ((with_reducible refine Im.fin ?_); exact zr)
      | ((with_reducible refine Im.anyo ?_ ?_); (next => kernel_rfl))
      | ((with_reducible refine Im.bite_t ?_ ?_); (next => exact zq))
      | ((with_reducible refine Im.bite_f ?_ ?_); (next => exact zq))
      | ((with_reducible refine Im.bite_t ?_ ?_); (next => exact zd))
      | ((with_reducible refine Im.must ?_ ?_); (next => exact zd))
      | ((with_reducible refine Im.bite_f ?_ ?_); (next => exact zd))
      | (with_reducible refine Im.byl ?_)
      | ((with_reducible refine Im.vget ByteArray.empty ?_ ?_ ?_); (next => exact zd); (next => exact zd))
      | ((with_reducible refine Im.vget (0 : Int) ?_ ?_ ?_); (next => exact zd); (next => exact zd))
      | ((with_reducible refine Im.vget false ?_ ?_ ?_); (next => exact zd); (next => exact zd))
      | ((with_reducible refine Im.call (impl_PlainOk_1.vi hG ?_ _) ?_ (fun r hr => ?_)); (next => omega); (next => exact zr))
      | ((with_reducible refine Im.loop (S := fun s : ByteArray × Int × Int => [.str s.1, .cl 97 [], .un, .un, .un, .un, .un, .int s.2.1, .int s.2.2, .un, .un, .un, .un, .un, .un, .un, .un, .un]) (L := fun k s => impl_all__impl_PlainOk_1.l0 k s.1 s.2.1 s.2.2) _ ?_ ?_ _ _ ⟨_, _, _⟩ _ (Nat.le_refl _) zo ?_)
         (next => intro s; rfl)
         (next =>
           intro k1 M1 ⟨x0, x7, x8⟩ hk1 hM1 ih1
           conv => arg 2; simp only [impl_all__impl_PlainOk_1.l0]
           repeat' first
             | (with_reducible first | exact Im.none | refine Im.ite (fun h => ?_) (fun h => ?_) | refine Im.sbind ?_)
             | ((conv => arg 3; whnf); first
               | ((with_reducible refine Im.fin ?_); exact zr)
               | ((with_reducible refine Im.anyo ?_ ?_); (next => kernel_rfl))
               | ((with_reducible refine Im.bite_t ?_ ?_); (next => exact zq))
               | ((with_reducible refine Im.bite_f ?_ ?_); (next => exact zq))
               | ((with_reducible refine Im.bite_t ?_ ?_); (next => exact zd))
               | ((with_reducible refine Im.must ?_ ?_); (next => exact zd))
               | ((with_reducible refine Im.bite_f ?_ ?_); (next => exact zd))
               | (with_reducible refine Im.byl ?_)
               | ((with_reducible refine Im.vget ByteArray.empty ?_ ?_ ?_); (next => exact zd); (next => exact zd))
               | ((with_reducible refine Im.vget (0 : Int) ?_ ?_ ?_); (next => exact zd); (next => exact zd))
               | ((with_reducible refine Im.vget false ?_ ?_ ?_); (next => exact zd); (next => exact zd))
               | ((with_reducible refine Im.call (impl_PlainOk_1.vi hG ?_ _) ?_ (fun r hr => ?_)); (next => omega); (next => exact zr))
               | ((with_reducible refine ih1 _ ⟨_, _, _⟩ _ ?_ ?_); (next => exact zo); exact zr)
               | exact zm | exact zx | fail)
           all_goals skip)
         exact zr)
      | exact zm | exact zx | fail)
  all_goals skip
theorem impl_PlainOk.vi {k m : Nat} {Gv : FuncId → Option (List VV → Option (VV × List VV))} (hG : Base Gv) (hm : k + 3 ≤ m) (a0 : ByteArray) : Im (fun r => (.bool r, [])) (impl_PlainOk.f k a0) (callv Tryz.prog ti keep Gv m 51 [.str a0]) := by
  obtain ⟨m, rfl⟩ : ∃ m', m = m' + 1 := ⟨m - 1, by omega⟩
  rw [show callv Tryz.prog ti keep Gv (m + 1) 51 _ = _ from callv_enter ((hG 51 (by decide) (by decide) (by decide) (by decide) (by decide) (by decide) (by decide) (by decide) (by decide) (by decide) (by decide) (by decide) (by decide) (by decide) (by decide) (by decide) (by decide)).trans rfl) Tryz.func51 (by kernel_rfl) rfl rfl]
  unfold impl_PlainOk.f
  repeat' first
    | (with_reducible first | exact Im.none | refine Im.ite (fun h => ?_) (fun h => ?_) | refine Im.sbind ?_)
    | ((conv => arg 3; whnf); first
      | ((with_reducible refine Im.fin ?_); exact zr)
      | ((with_reducible refine Im.anyo ?_ ?_); (next => kernel_rfl))
      | ((with_reducible refine Im.bite_t ?_ ?_); (next => exact zq))
      | ((with_reducible refine Im.bite_f ?_ ?_); (next => exact zq))
      | ((with_reducible refine Im.bite_t ?_ ?_); (next => exact zd))
      | ((with_reducible refine Im.must ?_ ?_); (next => exact zd))
      | ((with_reducible refine Im.bite_f ?_ ?_); (next => exact zd))
      | (with_reducible refine Im.byl ?_)
      | ((with_reducible refine Im.vget ByteArray.empty ?_ ?_ ?_); (next => exact zd); (next => exact zd))
      | ((with_reducible refine Im.vget (0 : Int) ?_ ?_ ?_); (next => exact zd); (next => exact zd))
      | ((with_reducible refine Im.vget false ?_ ?_ ?_); (next => exact zd); (next => exact zd))
      | ((with_reducible refine Im.call (impl_all__impl_PlainOk_1.vi hG ?_ _) ?_ (fun r hr => ?_)); (next => omega); (next => exact zr))
      | exact zm | exact zx | fail)
  all_goals skip
end Go.Proofs.YtbfbomcfmgdpkaaGreatDoor.VI

end
section
namespace Go.Proofs.YtbfbomcfmgdpkaaGreatDoor.VI
open Go Go.RowKit Go.Proofs.YtbfbomcfmgdpkaaGreatDoor.G Go.Proofs.YtbfbomcfmgdpkaaGreatDoorW.PrintWords
set_option maxRecDepth 100000
set_option maxHeartbeats 16000000
set_option linter.unusedVariables false
set_option linter.unusedSimpArgs false
theorem impl_Quote.vi {k m : Nat} {Gv : FuncId → Option (List VV → Option (VV × List VV))} (hG : Base Gv) (hL23 : Gv 23 = some impl_Quote.gv) (hm : k + 1 ≤ m) (a0 : ByteArray) : Im (fun r => (.str r, [])) (impl_Quote.f k a0) (callv Tryz.prog ti keep Gv m 23 [.str a0]) := by
  obtain ⟨m, rfl⟩ : ∃ m', m = m' + 1 := ⟨m - 1, by omega⟩
  rw [show callv Tryz.prog ti keep Gv (m + 1) 23 _ = _ from callv_given hL23]
  intro r h
  rw [show impl_Quote.gv [.str a0] = (limF (fun k => impl_Quote.f k a0)).map (fun r => (.str r, [])) from rfl, limF_some (fun k => impl_Quote.mono _ k) h]
  rfl
end Go.Proofs.YtbfbomcfmgdpkaaGreatDoor.VI

end
section
namespace Go.Proofs.YtbfbomcfmgdpkaaGreatDoor.VI
open Go Go.RowKit Go.Proofs.YtbfbomcfmgdpkaaGreatDoor.G Go.Proofs.YtbfbomcfmgdpkaaGreatDoorW.PrintWords
set_option maxRecDepth 100000
set_option maxHeartbeats 16000000
theorem impl_ReadDec.vi {m : Nat} {Gv : FuncId → Option (List VV → Option (VV × List VV))} (hG : Base Gv) (hm : 1 ≤ m) (a0 : ByteArray) : Im (fun r => (.int r, [])) (impl_ReadDec.f a0) (callv Tryz.prog ti keep Gv m 47 [.str a0]) := by
  obtain ⟨m, rfl⟩ : ∃ m', m = m' + 1 := ⟨m - 1, by omega⟩
  rw [show callv Tryz.prog ti keep Gv (m + 1) 47 _ = _ from callv_given ((hG 47 (by decide) (by decide) (by decide) (by decide) (by decide) (by decide) (by decide) (by decide) (by decide) (by decide) (by decide) (by decide) (by decide) (by decide) (by decide) (by decide) (by decide)).trans rfl)]
  intro r h
  rw [show impl_ReadDec.gv [.str a0] = (impl_ReadDec.f a0).map (fun r => (.int r, [])) from rfl, h]
  rfl
end Go.Proofs.YtbfbomcfmgdpkaaGreatDoor.VI

end
section
namespace Go.Proofs.YtbfbomcfmgdpkaaGreatDoor.VI
open Go Go.RowKit Go.Proofs.YtbfbomcfmgdpkaaGreatDoor.G Go.Proofs.YtbfbomcfmgdpkaaGreatDoorW.PrintWords
set_option maxRecDepth 100000
set_option maxHeartbeats 16000000
set_option linter.unusedVariables false
set_option linter.unusedSimpArgs false
theorem impl_Unquote.vi {k m : Nat} {Gv : FuncId → Option (List VV → Option (VV × List VV))} (hG : Base Gv) (hL25 : Gv 25 = some impl_Unquote.gv) (hm : k + 1 ≤ m) (a0 : ByteArray) (a1 : Int) : Im (fun r => (.tu [.str r.1, .int r.2], [])) (impl_Unquote.f k a0 a1) (callv Tryz.prog ti keep Gv m 25 [.str a0, .int a1]) := by
  obtain ⟨m, rfl⟩ : ∃ m', m = m' + 1 := ⟨m - 1, by omega⟩
  rw [show callv Tryz.prog ti keep Gv (m + 1) 25 _ = _ from callv_given hL25]
  intro r h
  rw [show impl_Unquote.gv [.str a0, .int a1] = (limF (fun k => impl_Unquote.f k a0 a1)).map (fun r => (.tu [.str r.1, .int r.2], [])) from rfl, limF_some (fun k => impl_Unquote.mono _ _ k) h]
  rfl
end Go.Proofs.YtbfbomcfmgdpkaaGreatDoor.VI

end
section
namespace Go.Proofs.YtbfbomcfmgdpkaaGreatDoor.VI
open Go Go.RowKit Go.Proofs.YtbfbomcfmgdpkaaGreatDoor.G Go.Proofs.YtbfbomcfmgdpkaaGreatDoorW.PrintWords
set_option maxRecDepth 100000
set_option maxHeartbeats 16000000
attribute [local irreducible] bite obind vget
theorem impl_Words.vi {m : Nat} {Gv : FuncId → Option (List VV → Option (VV × List VV))} (hG : Base Gv) (hm : 2 ≤ m) (a0 : ByteArray) : Im (fun r => (.ow 9 1 (r.map VV.str), [])) (impl_Words.f a0) (callv Tryz.prog ti keep Gv m 30 [.str a0]) := by
  obtain ⟨m, rfl⟩ : ∃ m', m = m' + 1 := ⟨m - 1, by omega⟩
  rw [show callv Tryz.prog ti keep Gv (m + 1) 30 _ = _ from callv_enter ((hG 30 (by decide) (by decide) (by decide) (by decide) (by decide) (by decide) (by decide) (by decide) (by decide) (by decide) (by decide) (by decide) (by decide) (by decide) (by decide) (by decide) (by decide)).trans rfl) Tryz.func30 (by kernel_rfl) rfl rfl]
  unfold impl_Words.f
  repeat' first
    | (with_reducible first | exact Im.none | refine Im.ite (fun h => ?_) (fun h => ?_) | refine Im.sbind ?_)
    | ((conv => arg 3; whnf); first
      | ((with_reducible refine Im.fin ?_); exact zr)
      | ((with_reducible refine Im.anyo ?_ ?_); (next => kernel_rfl))
      | ((with_reducible refine Im.bite_t ?_ ?_); (next => exact zq))
      | ((with_reducible refine Im.bite_f ?_ ?_); (next => exact zq))
      | ((with_reducible refine Im.bite_t ?_ ?_); (next => exact zd))
      | ((with_reducible refine Im.must ?_ ?_); (next => exact zd))
      | ((with_reducible refine Im.bite_f ?_ ?_); (next => exact zd))
      | (with_reducible refine Im.byl ?_)
      | ((with_reducible refine Im.vget ByteArray.empty ?_ ?_ ?_); (next => exact zd); (next => exact zd))
      | ((with_reducible refine Im.vget (0 : Int) ?_ ?_ ?_); (next => exact zd); (next => exact zd))
      | ((with_reducible refine Im.vget false ?_ ?_ ?_); (next => exact zd); (next => exact zd))
      | ((with_reducible refine Im.call (strings_Split.vi hG ?_ _ _) ?_ (fun r hr => ?_)); (next => omega); (next => exact zr))
      | exact zm | exact zx | fail)
  all_goals skip
theorem laws_big.vi {m : Nat} {Gv : FuncId → Option (List VV → Option (VV × List VV))} (hG : Base Gv) (hm : 1 ≤ m) (l0 : List Int) : Im (fun r => (.bool r, [])) (laws_big.f l0) (callv Tryz.prog ti keep Gv m 5 [.sl (l0.map VV.byte)]) := by
  obtain ⟨m, rfl⟩ : ∃ m', m = m' + 1 := ⟨m - 1, by omega⟩
  rw [show callv Tryz.prog ti keep Gv (m + 1) 5 _ = _ from callv_enter ((hG 5 (by decide) (by decide) (by decide) (by decide) (by decide) (by decide) (by decide) (by decide) (by decide) (by decide) (by decide) (by decide) (by decide) (by decide) (by decide) (by decide) (by decide)).trans rfl) Tryz.func5 (by kernel_rfl) rfl rfl]
  unfold laws_big.f
  repeat' first
    | (with_reducible first | exact Im.none | refine Im.ite (fun h => ?_) (fun h => ?_) | refine Im.sbind ?_)
    | ((conv => arg 3; whnf); first
      | ((with_reducible refine Im.fin ?_); exact zr)
      | ((with_reducible refine Im.anyo ?_ ?_); (next => kernel_rfl))
      | ((with_reducible refine Im.bite_t ?_ ?_); (next => exact zq))
      | ((with_reducible refine Im.bite_f ?_ ?_); (next => exact zq))
      | ((with_reducible refine Im.bite_t ?_ ?_); (next => exact zd))
      | ((with_reducible refine Im.must ?_ ?_); (next => exact zd))
      | ((with_reducible refine Im.bite_f ?_ ?_); (next => exact zd))
      | (with_reducible refine Im.byl ?_)
      | ((with_reducible refine Im.vget ByteArray.empty ?_ ?_ ?_); (next => exact zd); (next => exact zd))
      | ((with_reducible refine Im.vget (0 : Int) ?_ ?_ ?_); (next => exact zd); (next => exact zd))
      | ((with_reducible refine Im.vget false ?_ ?_ ?_); (next => exact zd); (next => exact zd))
      | exact zm | exact zx | fail)
  all_goals skip
theorem laws_sameTexts.vi {k m : Nat} {Gv : FuncId → Option (List VV → Option (VV × List VV))} (hG : Base Gv) (hm : k + 1 ≤ m) (l0 : List ByteArray) (l1 : List ByteArray) : Im (fun r => (.bool r, [])) (laws_sameTexts.f k l0 l1) (callv Tryz.prog ti keep Gv m 40 [.sl (l0.map VV.str), .sl (l1.map VV.str)]) := by
  obtain ⟨m, rfl⟩ : ∃ m', m = m' + 1 := ⟨m - 1, by omega⟩
  rw [show callv Tryz.prog ti keep Gv (m + 1) 40 _ = _ from callv_enter ((hG 40 (by decide) (by decide) (by decide) (by decide) (by decide) (by decide) (by decide) (by decide) (by decide) (by decide) (by decide) (by decide) (by decide) (by decide) (by decide) (by decide) (by decide)).trans rfl) Tryz.func40 (by kernel_rfl) rfl rfl]
  unfold laws_sameTexts.f
  repeat' first
    | (with_reducible first | exact Im.none | refine Im.ite (fun h => ?_) (fun h => ?_) | refine Im.sbind ?_)
    | ((conv => arg 3; whnf); first
      | ((with_reducible refine Im.fin ?_); exact zr)
      | ((with_reducible refine Im.anyo ?_ ?_); (next => kernel_rfl))
      | ((with_reducible refine Im.bite_t ?_ ?_); (next => exact zq))
      | ((with_reducible refine Im.bite_f ?_ ?_); (next => exact zq))
      | ((with_reducible refine Im.bite_t ?_ ?_); (next => exact zd))
      | ((with_reducible refine Im.must ?_ ?_); (next => exact zd))
      | ((with_reducible refine Im.bite_f ?_ ?_); (next => exact zd))
      | (with_reducible refine Im.byl ?_)
      | ((with_reducible refine Im.vget ByteArray.empty ?_ ?_ ?_); (next => exact zd); (next => exact zd))
      | ((with_reducible refine Im.vget (0 : Int) ?_ ?_ ?_); (next => exact zd); (next => exact zd))
      | ((with_reducible refine Im.vget false ?_ ?_ ?_); (next => exact zd); (next => exact zd))
      | ((with_reducible refine Im.loop (S := fun s : List ByteArray × List ByteArray × Int => [.sl (s.1.map VV.str), .sl (s.2.1.map VV.str), .un, .un, .un, .int s.2.2, .un, .un, .un, .un, .un, .un, .un, .un, .un, .un, .un, .un, .un, .un, .un, .un, .un, .un, .un, .un]) (L := fun k s => laws_sameTexts.l0 k s.1 s.2.1 s.2.2) _ ?_ ?_ _ _ ⟨_, _, _⟩ _ (Nat.le_refl _) zo ?_)
         (next => intro s; rfl)
         (next =>
           intro k1 M1 ⟨x0, x1, x5⟩ hk1 hM1 ih1
           conv => arg 2; simp only [laws_sameTexts.l0]
           repeat' first
             | (with_reducible first | exact Im.none | refine Im.ite (fun h => ?_) (fun h => ?_) | refine Im.sbind ?_)
             | ((conv => arg 3; whnf); first
               | ((with_reducible refine Im.fin ?_); exact zr)
               | ((with_reducible refine Im.anyo ?_ ?_); (next => kernel_rfl))
               | ((with_reducible refine Im.bite_t ?_ ?_); (next => exact zq))
               | ((with_reducible refine Im.bite_f ?_ ?_); (next => exact zq))
               | ((with_reducible refine Im.bite_t ?_ ?_); (next => exact zd))
               | ((with_reducible refine Im.must ?_ ?_); (next => exact zd))
               | ((with_reducible refine Im.bite_f ?_ ?_); (next => exact zd))
               | (with_reducible refine Im.byl ?_)
               | ((with_reducible refine Im.vget ByteArray.empty ?_ ?_ ?_); (next => exact zd); (next => exact zd))
               | ((with_reducible refine Im.vget (0 : Int) ?_ ?_ ?_); (next => exact zd); (next => exact zd))
               | ((with_reducible refine Im.vget false ?_ ?_ ?_); (next => exact zd); (next => exact zd))
               | ((with_reducible refine ih1 _ ⟨_, _, _⟩ _ ?_ ?_); (next => exact zo); exact zr)
               | exact zm | exact zx | fail)
           all_goals skip)
         exact zr)
      | exact zm | exact zx | fail)
  all_goals skip
end Go.Proofs.YtbfbomcfmgdpkaaGreatDoor.VI

end
section
namespace Go.Proofs.YtbfbomcfmgdpkaaGreatDoor.VI
open Go Go.RowKit Go.Proofs.YtbfbomcfmgdpkaaGreatDoor.G Go.Proofs.YtbfbomcfmgdpkaaGreatDoorW.PrintWords
set_option maxRecDepth 100000
set_option maxHeartbeats 16000000
set_option linter.unusedVariables false
set_option linter.unusedSimpArgs false
theorem spec_DrawDecText.vi {k m : Nat} {Gv : FuncId → Option (List VV → Option (VV × List VV))} (hG : Base Gv) (hL32 : Gv 32 = some spec_DrawDecText.gv) (hm : k + 1 ≤ m) (l0 : List Int) : Im (fun r => (.int r, [])) (spec_DrawDecText.f k l0) (callv Tryz.prog ti keep Gv m 32 [.sl (l0.map VV.byte)]) := by
  obtain ⟨m, rfl⟩ : ∃ m', m = m' + 1 := ⟨m - 1, by omega⟩
  rw [show callv Tryz.prog ti keep Gv (m + 1) 32 _ = _ from callv_given hL32]
  intro r h
  show obind (byL (l0.map VV.byte)) _ = _
  rw [byL_of]
  show (limF (fun k => spec_DrawDecText.f k l0)).map _ = _
  rw [limF_some (fun k => spec_DrawDecText.mono _ k) h]
  rfl
theorem spec_DrawIndent.vi {k m : Nat} {Gv : FuncId → Option (List VV → Option (VV × List VV))} (hG : Base Gv) (hL31 : Gv 31 = some spec_DrawIndent.gv) (hm : k + 1 ≤ m) (l0 : List Int) : Im (fun r => (.str r, [])) (spec_DrawIndent.f k l0) (callv Tryz.prog ti keep Gv m 31 [.sl (l0.map VV.byte)]) := by
  obtain ⟨m, rfl⟩ : ∃ m', m = m' + 1 := ⟨m - 1, by omega⟩
  rw [show callv Tryz.prog ti keep Gv (m + 1) 31 _ = _ from callv_given hL31]
  intro r h
  show obind (byL (l0.map VV.byte)) _ = _
  rw [byL_of]
  show (limF (fun k => spec_DrawIndent.f k l0)).map _ = _
  rw [limF_some (fun k => spec_DrawIndent.mono _ k) h]
  rfl
theorem spec_DrawLines.vi {k m : Nat} {Gv : FuncId → Option (List VV → Option (VV × List VV))} (hG : Base Gv) (hL27 : Gv 27 = some spec_DrawLines.gv) (hm : k + 1 ≤ m) (l0 : List Int) : Im (fun r => (.str r, [])) (spec_DrawLines.f k l0) (callv Tryz.prog ti keep Gv m 27 [.sl (l0.map VV.byte)]) := by
  obtain ⟨m, rfl⟩ : ∃ m', m = m' + 1 := ⟨m - 1, by omega⟩
  rw [show callv Tryz.prog ti keep Gv (m + 1) 27 _ = _ from callv_given hL27]
  intro r h
  show obind (byL (l0.map VV.byte)) _ = _
  rw [byL_of]
  show (limF (fun k => spec_DrawLines.f k l0)).map _ = _
  rw [limF_some (fun k => spec_DrawLines.mono _ k) h]
  rfl
theorem spec_DrawNameOk.vi {k m : Nat} {Gv : FuncId → Option (List VV → Option (VV × List VV))} (hG : Base Gv) (hL37 : Gv 37 = some spec_DrawNameOk.gv) (hm : k + 1 ≤ m) (l0 : List Int) : Im (fun r => (.str r, [])) (spec_DrawNameOk.f k l0) (callv Tryz.prog ti keep Gv m 37 [.sl (l0.map VV.byte)]) := by
  obtain ⟨m, rfl⟩ : ∃ m', m = m' + 1 := ⟨m - 1, by omega⟩
  rw [show callv Tryz.prog ti keep Gv (m + 1) 37 _ = _ from callv_given hL37]
  intro r h
  show obind (byL (l0.map VV.byte)) _ = _
  rw [byL_of]
  show (limF (fun k => spec_DrawNameOk.f k l0)).map _ = _
  rw [limF_some (fun k => spec_DrawNameOk.mono _ k) h]
  rfl
theorem spec_DrawPlace.vi {k m : Nat} {Gv : FuncId → Option (List VV → Option (VV × List VV))} (hG : Base Gv) (hL34 : Gv 34 = some spec_DrawPlace.gv) (hm : k + 1 ≤ m) (l0 : List Int) : Im (fun r => (.tu [.str r.1, .int r.2], [])) (spec_DrawPlace.f k l0) (callv Tryz.prog ti keep Gv m 34 [.sl (l0.map VV.byte)]) := by
  obtain ⟨m, rfl⟩ : ∃ m', m = m' + 1 := ⟨m - 1, by omega⟩
  rw [show callv Tryz.prog ti keep Gv (m + 1) 34 _ = _ from callv_given hL34]
  intro r h
  show obind (byL (l0.map VV.byte)) _ = _
  rw [byL_of]
  show (limF (fun k => spec_DrawPlace.f k l0)).map _ = _
  rw [limF_some (fun k => spec_DrawPlace.mono _ k) h]
  rfl
theorem spec_DrawPlainOk.vi {k m : Nat} {Gv : FuncId → Option (List VV → Option (VV × List VV))} (hG : Base Gv) (hL38 : Gv 38 = some spec_DrawPlainOk.gv) (hm : k + 1 ≤ m) (l0 : List Int) : Im (fun r => (.str r, [])) (spec_DrawPlainOk.f k l0) (callv Tryz.prog ti keep Gv m 38 [.sl (l0.map VV.byte)]) := by
  obtain ⟨m, rfl⟩ : ∃ m', m = m' + 1 := ⟨m - 1, by omega⟩
  rw [show callv Tryz.prog ti keep Gv (m + 1) 38 _ = _ from callv_given hL38]
  intro r h
  show obind (byL (l0.map VV.byte)) _ = _
  rw [byL_of]
  show (limF (fun k => spec_DrawPlainOk.f k l0)).map _ = _
  rw [limF_some (fun k => spec_DrawPlainOk.mono _ k) h]
  rfl
theorem spec_DrawQuote.vi {k m : Nat} {Gv : FuncId → Option (List VV → Option (VV × List VV))} (hG : Base Gv) (hL22 : Gv 22 = some spec_DrawQuote.gv) (hm : k + 1 ≤ m) (l0 : List Int) : Im (fun r => (.str r, [])) (spec_DrawQuote.f k l0) (callv Tryz.prog ti keep Gv m 22 [.sl (l0.map VV.byte)]) := by
  obtain ⟨m, rfl⟩ : ∃ m', m = m' + 1 := ⟨m - 1, by omega⟩
  rw [show callv Tryz.prog ti keep Gv (m + 1) 22 _ = _ from callv_given hL22]
  intro r h
  show obind (byL (l0.map VV.byte)) _ = _
  rw [byL_of]
  show (limF (fun k => spec_DrawQuote.f k l0)).map _ = _
  rw [limF_some (fun k => spec_DrawQuote.mono _ k) h]
  rfl
theorem spec_DrawReadDec.vi {k m : Nat} {Gv : FuncId → Option (List VV → Option (VV × List VV))} (hG : Base Gv) (hL33 : Gv 33 = some spec_DrawReadDec.gv) (hm : k + 1 ≤ m) (l0 : List Int) : Im (fun r => (.str r, [])) (spec_DrawReadDec.f k l0) (callv Tryz.prog ti keep Gv m 33 [.sl (l0.map VV.byte)]) := by
  obtain ⟨m, rfl⟩ : ∃ m', m = m' + 1 := ⟨m - 1, by omega⟩
  rw [show callv Tryz.prog ti keep Gv (m + 1) 33 _ = _ from callv_given hL33]
  intro r h
  show obind (byL (l0.map VV.byte)) _ = _
  rw [byL_of]
  show (limF (fun k => spec_DrawReadDec.f k l0)).map _ = _
  rw [limF_some (fun k => spec_DrawReadDec.mono _ k) h]
  rfl
theorem spec_DrawUnquote.vi {k m : Nat} {Gv : FuncId → Option (List VV → Option (VV × List VV))} (hG : Base Gv) (hL24 : Gv 24 = some spec_DrawUnquote.gv) (hm : k + 1 ≤ m) (l0 : List Int) : Im (fun r => (.tu [.str r.1, .int r.2], [])) (spec_DrawUnquote.f k l0) (callv Tryz.prog ti keep Gv m 24 [.sl (l0.map VV.byte)]) := by
  obtain ⟨m, rfl⟩ : ∃ m', m = m' + 1 := ⟨m - 1, by omega⟩
  rw [show callv Tryz.prog ti keep Gv (m + 1) 24 _ = _ from callv_given hL24]
  intro r h
  show obind (byL (l0.map VV.byte)) _ = _
  rw [byL_of]
  show (limF (fun k => spec_DrawUnquote.f k l0)).map _ = _
  rw [limF_some (fun k => spec_DrawUnquote.mono _ k) h]
  rfl
theorem spec_DrawWords.vi {k m : Nat} {Gv : FuncId → Option (List VV → Option (VV × List VV))} (hG : Base Gv) (hL29 : Gv 29 = some spec_DrawWords.gv) (hm : k + 1 ≤ m) (l0 : List Int) : Im (fun r => (.str r, [])) (spec_DrawWords.f k l0) (callv Tryz.prog ti keep Gv m 29 [.sl (l0.map VV.byte)]) := by
  obtain ⟨m, rfl⟩ : ∃ m', m = m' + 1 := ⟨m - 1, by omega⟩
  rw [show callv Tryz.prog ti keep Gv (m + 1) 29 _ = _ from callv_given hL29]
  intro r h
  show obind (byL (l0.map VV.byte)) _ = _
  rw [byL_of]
  show (limF (fun k => spec_DrawWords.f k l0)).map _ = _
  rw [limF_some (fun k => spec_DrawWords.mono _ k) h]
  rfl
end Go.Proofs.YtbfbomcfmgdpkaaGreatDoor.VI

end
section
namespace Go.Proofs.YtbfbomcfmgdpkaaGreatDoor.VI
open Go Go.RowKit Go.Proofs.YtbfbomcfmgdpkaaGreatDoor.G Go.Proofs.YtbfbomcfmgdpkaaGreatDoorW.PrintWords
set_option maxRecDepth 100000
set_option maxHeartbeats 16000000
attribute [local irreducible] bite obind vget
theorem spec_Indent.vi {k m : Nat} {Gv : FuncId → Option (List VV → Option (VV × List VV))} (hG : Base Gv) (hm : k + 1 ≤ m) (a0 : ByteArray) : Im (fun r => (.int r, [])) (spec_Indent.f k a0) (callv Tryz.prog ti keep Gv m 44 [.str a0]) := by
  obtain ⟨m, rfl⟩ : ∃ m', m = m' + 1 := ⟨m - 1, by omega⟩
  rw [show callv Tryz.prog ti keep Gv (m + 1) 44 _ = _ from callv_enter ((hG 44 (by decide) (by decide) (by decide) (by decide) (by decide) (by decide) (by decide) (by decide) (by decide) (by decide) (by decide) (by decide) (by decide) (by decide) (by decide) (by decide) (by decide)).trans rfl) Tryz.func44 (by kernel_rfl) rfl rfl]
  unfold spec_Indent.f
  repeat' first
    | (with_reducible first | exact Im.none | refine Im.ite (fun h => ?_) (fun h => ?_) | refine Im.sbind ?_)
    | ((conv => arg 3; whnf); first
      | ((with_reducible refine Im.fin ?_); exact zr)
      | ((with_reducible refine Im.anyo ?_ ?_); (next => kernel_rfl))
      | ((with_reducible refine Im.bite_t ?_ ?_); (next => exact zq))
      | ((with_reducible refine Im.bite_f ?_ ?_); (next => exact zq))
      | ((with_reducible refine Im.bite_t ?_ ?_); (next => exact zd))
      | ((with_reducible refine Im.must ?_ ?_); (next => exact zd))
      | ((with_reducible refine Im.bite_f ?_ ?_); (next => exact zd))
      | (with_reducible refine Im.byl ?_)
      | ((with_reducible refine Im.vget ByteArray.empty ?_ ?_ ?_); (next => exact zd); (next => exact zd))
      | ((with_reducible refine Im.vget (0 : Int) ?_ ?_ ?_); (next => exact zd); (next => exact zd))
      | ((with_reducible refine Im.vget false ?_ ?_ ?_); (next => exact zd); (next => exact zd))
      | ((with_reducible refine Im.loop (S := fun s : ByteArray × Int => [.str s.1, .un, .un, .int s.2, .un, .un, .un, .un, .un, .un, .un, .un, .un, .un, .un, .un, .un]) (L := fun k s => spec_Indent.l0 k s.1 s.2) _ ?_ ?_ _ _ ⟨_, _⟩ _ (Nat.le_refl _) zo ?_)
         (next => intro s; rfl)
         (next =>
           intro k1 M1 ⟨x0, x3⟩ hk1 hM1 ih1
           conv => arg 2; simp only [spec_Indent.l0]
           repeat' first
             | (with_reducible first | exact Im.none | refine Im.ite (fun h => ?_) (fun h => ?_) | refine Im.sbind ?_)
             | ((conv => arg 3; whnf); first
               | ((with_reducible refine Im.fin ?_); exact zr)
               | ((with_reducible refine Im.anyo ?_ ?_); (next => kernel_rfl))
               | ((with_reducible refine Im.bite_t ?_ ?_); (next => exact zq))
               | ((with_reducible refine Im.bite_f ?_ ?_); (next => exact zq))
               | ((with_reducible refine Im.bite_t ?_ ?_); (next => exact zd))
               | ((with_reducible refine Im.must ?_ ?_); (next => exact zd))
               | ((with_reducible refine Im.bite_f ?_ ?_); (next => exact zd))
               | (with_reducible refine Im.byl ?_)
               | ((with_reducible refine Im.vget ByteArray.empty ?_ ?_ ?_); (next => exact zd); (next => exact zd))
               | ((with_reducible refine Im.vget (0 : Int) ?_ ?_ ?_); (next => exact zd); (next => exact zd))
               | ((with_reducible refine Im.vget false ?_ ?_ ?_); (next => exact zd); (next => exact zd))
               | ((with_reducible refine ih1 _ ⟨_, _⟩ _ ?_ ?_); (next => exact zo); exact zr)
               | exact zm | exact zx | fail)
           all_goals skip)
         exact zr)
      | exact zm | exact zx | fail)
  all_goals skip
end Go.Proofs.YtbfbomcfmgdpkaaGreatDoor.VI

end
section
namespace Go.Proofs.YtbfbomcfmgdpkaaGreatDoor.VI
open Go Go.RowKit Go.Proofs.YtbfbomcfmgdpkaaGreatDoor.G Go.Proofs.YtbfbomcfmgdpkaaGreatDoorW.PrintWords
set_option maxRecDepth 100000
set_option maxHeartbeats 16000000
set_option linter.unusedVariables false
set_option linter.unusedSimpArgs false
theorem spec_Lines.vi {k m : Nat} {Gv : FuncId → Option (List VV → Option (VV × List VV))} (hG : Base Gv) (hL41 : Gv 41 = some spec_Lines.gv) (hm : k + 1 ≤ m) (a0 : ByteArray) : Im (fun r => (.ow 9 1 (r.map VV.str), [])) (spec_Lines.f k a0) (callv Tryz.prog ti keep Gv m 41 [.str a0]) := by
  obtain ⟨m, rfl⟩ : ∃ m', m = m' + 1 := ⟨m - 1, by omega⟩
  rw [show callv Tryz.prog ti keep Gv (m + 1) 41 _ = _ from callv_given hL41]
  intro r h
  rw [show spec_Lines.gv [.str a0] = (limF (fun k => spec_Lines.f k a0)).map (fun r => (.ow 9 1 (r.map VV.str), [])) from rfl, limF_some (fun k => spec_Lines.mono _ k) h]
  rfl
end Go.Proofs.YtbfbomcfmgdpkaaGreatDoor.VI

end
section
namespace Go.Proofs.YtbfbomcfmgdpkaaGreatDoor.VI
open Go Go.RowKit Go.Proofs.YtbfbomcfmgdpkaaGreatDoor.G Go.Proofs.YtbfbomcfmgdpkaaGreatDoorW.PrintWords
set_option maxRecDepth 100000
set_option maxHeartbeats 16000000
attribute [local irreducible] bite obind vget
theorem spec_l01Cut.vi {k m : Nat} {Gv : FuncId → Option (List VV → Option (VV × List VV))} (hG : Base Gv) (hm : k + 1 ≤ m) (a0 : ByteArray) (a1 : Int) : Im (fun r => (.ow 9 1 (r.map VV.str), [])) (spec_l01Cut.f k a0 a1) (callv Tryz.prog ti keep Gv m 87 [.str a0, .byte a1]) := by
  obtain ⟨m, rfl⟩ : ∃ m', m = m' + 1 := ⟨m - 1, by omega⟩
  rw [show callv Tryz.prog ti keep Gv (m + 1) 87 _ = _ from callv_enter ((hG 87 (by decide) (by decide) (by decide) (by decide) (by decide) (by decide) (by decide) (by decide) (by decide) (by decide) (by decide) (by decide) (by decide) (by decide) (by decide) (by decide) (by decide)).trans rfl) Tryz.func87 (by kernel_rfl) rfl rfl]
  unfold spec_l01Cut.f
  repeat' first
    | (with_reducible first | exact Im.none | refine Im.ite (fun h => ?_) (fun h => ?_) | refine Im.sbind ?_)
    | ((conv => arg 3; whnf); first
      | ((with_reducible refine Im.fin ?_); exact zr)
      | ((with_reducible refine Im.anyo ?_ ?_); (next => kernel_rfl))
      | ((with_reducible refine Im.bite_t ?_ ?_); (next => exact zq))
      | ((with_reducible refine Im.bite_f ?_ ?_); (next => exact zq))
      | ((with_reducible refine Im.bite_t ?_ ?_); (next => exact zd))
      | ((with_reducible refine Im.must ?_ ?_); (next => exact zd))
      | ((with_reducible refine Im.bite_f ?_ ?_); (next => exact zd))
      | (with_reducible refine Im.byl ?_)
      | ((with_reducible refine Im.vget ByteArray.empty ?_ ?_ ?_); (next => exact zd); (next => exact zd))
      | ((with_reducible refine Im.vget (0 : Int) ?_ ?_ ?_); (next => exact zd); (next => exact zd))
      | ((with_reducible refine Im.vget false ?_ ?_ ?_); (next => exact zd); (next => exact zd))
      | ((with_reducible refine Im.loop (S := fun s : ByteArray × Int × List ByteArray × Int × Int => [.str s.1, .byte s.2.1, .un, .un, .un, .ow 9 1 (s.2.2.1.map VV.str), .int s.2.2.2.1, .int s.2.2.2.2, .un, .un, .un, .un, .un, .un, .un, .un, .un, .un, .un, .un, .un, .un, .un, .un, .un, .un, .un, .un, .un, .un, .un, .un, .un, .un, .un]) (L := fun k s => spec_l01Cut.l0 k s.1 s.2.1 s.2.2.1 s.2.2.2.1 s.2.2.2.2) _ ?_ ?_ _ _ ⟨_, _, _, _, _⟩ _ (Nat.le_refl _) zo ?_)
         (next => intro s; rfl)
         (next =>
           intro k1 M1 ⟨x0, x1, x5, x6, x7⟩ hk1 hM1 ih1
           conv => arg 2; simp only [spec_l01Cut.l0]
           repeat' first
             | (with_reducible first | exact Im.none | refine Im.ite (fun h => ?_) (fun h => ?_) | refine Im.sbind ?_)
             | ((conv => arg 3; whnf); first
               | ((with_reducible refine Im.fin ?_); exact zr)
               | ((with_reducible refine Im.anyo ?_ ?_); (next => kernel_rfl))
               | ((with_reducible refine Im.bite_t ?_ ?_); (next => exact zq))
               | ((with_reducible refine Im.bite_f ?_ ?_); (next => exact zq))
               | ((with_reducible refine Im.bite_t ?_ ?_); (next => exact zd))
               | ((with_reducible refine Im.must ?_ ?_); (next => exact zd))
               | ((with_reducible refine Im.bite_f ?_ ?_); (next => exact zd))
               | (with_reducible refine Im.byl ?_)
               | ((with_reducible refine Im.vget ByteArray.empty ?_ ?_ ?_); (next => exact zd); (next => exact zd))
               | ((with_reducible refine Im.vget (0 : Int) ?_ ?_ ?_); (next => exact zd); (next => exact zd))
               | ((with_reducible refine Im.vget false ?_ ?_ ?_); (next => exact zd); (next => exact zd))
               | ((with_reducible refine ih1 _ ⟨_, _, _, _, _⟩ _ ?_ ?_); (next => exact zo); exact zr)
               | exact zm | exact zx | fail)
           all_goals skip)
         exact zr)
      | exact zm | exact zx | fail)
  all_goals skip
theorem spec_l01In.vi {m : Nat} {Gv : FuncId → Option (List VV → Option (VV × List VV))} (hG : Base Gv) (hm : 1 ≤ m) (a0 : Int) (a1 : Int) (a2 : Int) : Im (fun r => (.bool r, [])) (spec_l01In.f a0 a1 a2) (callv Tryz.prog ti keep Gv m 69 [.int a0, .int a1, .int a2]) := by
  obtain ⟨m, rfl⟩ : ∃ m', m = m' + 1 := ⟨m - 1, by omega⟩
  rw [show callv Tryz.prog ti keep Gv (m + 1) 69 _ = _ from callv_enter ((hG 69 (by decide) (by decide) (by decide) (by decide) (by decide) (by decide) (by decide) (by decide) (by decide) (by decide) (by decide) (by decide) (by decide) (by decide) (by decide) (by decide) (by decide)).trans rfl) Tryz.func69 (by kernel_rfl) rfl rfl]
  unfold spec_l01In.f
  repeat' first
    | (with_reducible first | exact Im.none | refine Im.ite (fun h => ?_) (fun h => ?_) | refine Im.sbind ?_)
    | ((conv => arg 3; whnf); first
      | ((with_reducible refine Im.fin ?_); exact zr)
      | ((with_reducible refine Im.anyo ?_ ?_); (next => kernel_rfl))
      | ((with_reducible refine Im.bite_t ?_ ?_); (next => exact zq))
      | ((with_reducible refine Im.bite_f ?_ ?_); (next => exact zq))
      | ((with_reducible refine Im.bite_t ?_ ?_); (next => exact zd))
      | ((with_reducible refine Im.must ?_ ?_); (next => exact zd))
      | ((with_reducible refine Im.bite_f ?_ ?_); (next => exact zd))
      | (with_reducible refine Im.byl ?_)
      | ((with_reducible refine Im.vget ByteArray.empty ?_ ?_ ?_); (next => exact zd); (next => exact zd))
      | ((with_reducible refine Im.vget (0 : Int) ?_ ?_ ?_); (next => exact zd); (next => exact zd))
      | ((with_reducible refine Im.vget false ?_ ?_ ?_); (next => exact zd); (next => exact zd))
      | exact zm | exact zx | fail)
  all_goals skip
theorem spec_l01Letter.vi {m : Nat} {Gv : FuncId → Option (List VV → Option (VV × List VV))} (hG : Base Gv) (hm : 2 ≤ m) (a0 : Int) : Im (fun r => (.bool r, [])) (spec_l01Letter.f a0) (callv Tryz.prog ti keep Gv m 96 [.byte a0]) := by
  obtain ⟨m, rfl⟩ : ∃ m', m = m' + 1 := ⟨m - 1, by omega⟩
  rw [show callv Tryz.prog ti keep Gv (m + 1) 96 _ = _ from callv_enter ((hG 96 (by decide) (by decide) (by decide) (by decide) (by decide) (by decide) (by decide) (by decide) (by decide) (by decide) (by decide) (by decide) (by decide) (by decide) (by decide) (by decide) (by decide)).trans rfl) Tryz.func96 (by kernel_rfl) rfl rfl]
  unfold spec_l01Letter.f
  repeat' first
    | (with_reducible first | exact Im.none | refine Im.ite (fun h => ?_) (fun h => ?_) | refine Im.sbind ?_)
    | ((conv => arg 3; whnf); first
      | ((with_reducible refine Im.fin ?_); exact zr)
      | ((with_reducible refine Im.anyo ?_ ?_); (next => kernel_rfl))
      | ((with_reducible refine Im.bite_t ?_ ?_); (next => exact zq))
      | ((with_reducible refine Im.bite_f ?_ ?_); (next => exact zq))
      | ((with_reducible refine Im.bite_t ?_ ?_); (next => exact zd))
      | ((with_reducible refine Im.must ?_ ?_); (next => exact zd))
      | ((with_reducible refine Im.bite_f ?_ ?_); (next => exact zd))
      | (with_reducible refine Im.byl ?_)
      | ((with_reducible refine Im.vget ByteArray.empty ?_ ?_ ?_); (next => exact zd); (next => exact zd))
      | ((with_reducible refine Im.vget (0 : Int) ?_ ?_ ?_); (next => exact zd); (next => exact zd))
      | ((with_reducible refine Im.vget false ?_ ?_ ?_); (next => exact zd); (next => exact zd))
      | ((with_reducible refine Im.call (spec_l01In.vi hG ?_ _ _ _) ?_ (fun r hr => ?_)); (next => omega); (next => exact zr))
      | exact zm | exact zx | fail)
  all_goals skip
theorem spec_NameOk.vi {k m : Nat} {Gv : FuncId → Option (List VV → Option (VV × List VV))} (hG : Base Gv) (hm : k + 3 ≤ m) (a0 : ByteArray) : Im (fun r => (.bool r, [])) (spec_NameOk.f k a0) (callv Tryz.prog ti keep Gv m 50 [.str a0]) := by
  obtain ⟨m, rfl⟩ : ∃ m', m = m' + 1 := ⟨m - 1, by omega⟩
  rw [show callv Tryz.prog ti keep Gv (m + 1) 50 _ = _ from callv_enter ((hG 50 (by decide) (by decide) (by decide) (by decide) (by decide) (by decide) (by decide) (by decide) (by decide) (by decide) (by decide) (by decide) (by decide) (by decide) (by decide) (by decide) (by decide)).trans rfl) Tryz.func50 (by kernel_rfl) rfl rfl]
  unfold spec_NameOk.f
  repeat' first
    | (with_reducible first | exact Im.none | refine Im.ite (fun h => ?_) (fun h => ?_) | refine Im.sbind ?_)
    | ((conv => arg 3; whnf); first
      | ((with_reducible refine Im.fin ?_); exact zr)
      | ((with_reducible refine Im.anyo ?_ ?_); (next => kernel_rfl))
      | ((with_reducible refine Im.bite_t ?_ ?_); (next => exact zq))
      | ((with_reducible refine Im.bite_f ?_ ?_); (next => exact zq))
      | ((with_reducible refine Im.bite_t ?_ ?_); (next => exact zd))
      | ((with_reducible refine Im.must ?_ ?_); (next => exact zd))
      | ((with_reducible refine Im.bite_f ?_ ?_); (next => exact zd))
      | (with_reducible refine Im.byl ?_)
      | ((with_reducible refine Im.vget ByteArray.empty ?_ ?_ ?_); (next => exact zd); (next => exact zd))
      | ((with_reducible refine Im.vget (0 : Int) ?_ ?_ ?_); (next => exact zd); (next => exact zd))
      | ((with_reducible refine Im.vget false ?_ ?_ ?_); (next => exact zd); (next => exact zd))
      | ((with_reducible refine Im.call (spec_l01Cut.vi hG ?_ _ _) ?_ (fun r hr => ?_)); (next => omega); (next => exact zr))
      | ((with_reducible refine Im.call (spec_l01Letter.vi hG ?_ _) ?_ (fun r hr => ?_)); (next => omega); (next => exact zr))
      | ((with_reducible refine Im.loop (S := fun s : ByteArray × List ByteArray × Int => [.str s.1, .un, .un, .ow 9 1 (s.2.1.map VV.str), .int s.2.2, .un, .un, .un, .un, .un, .un, .un, .un, .un, .un, .un, .un, .un, .un, .un, .un, .un, .un, .un, .un, .un, .un, .un, .un, .un, .un, .un, .un, .un, .un, .un, .un, .un, .un, .un, .un, .un, .un, .un, .un, .un, .un, .un, .un, .un, .un, .un, .un, .un, .un, .un, .un, .un, .un, .un, .un, .un, .un, .un, .un, .un, .un, .un, .un]) (L := fun k s => spec_NameOk.l0 k s.1 s.2.1 s.2.2) _ ?_ ?_ _ _ ⟨_, _, _⟩ _ (Nat.le_refl _) zo ?_)
         (next => intro s; rfl)
         (next =>
           intro k1 M1 ⟨x0, x3, x4⟩ hk1 hM1 ih1
           conv => arg 2; simp only [spec_NameOk.l0]
           repeat' first
             | ((with_reducible refine Im.nat (fun k => spec_NameOk.j1 k _ _ _ _ _) _ ?_ (fun kj hkj => ?_)); (next => rfl); (conv => arg 2; simp only [spec_NameOk.j1, Bool.false_eq_true, reduceIte]))
             | ((with_reducible refine Im.nat (fun k => spec_NameOk.j2 k _ _ _ _) _ ?_ (fun kj hkj => ?_)); (next => rfl); (conv => arg 2; simp only [spec_NameOk.j2, Bool.false_eq_true, reduceIte]))
             | (with_reducible first | exact Im.none | refine Im.ite (fun h => ?_) (fun h => ?_) | refine Im.sbind ?_)
             | ((conv => arg 3; whnf); first
               | ((with_reducible refine Im.fin ?_); exact zr)
               | ((with_reducible refine Im.anyo ?_ ?_); (next => kernel_rfl))
               | ((with_reducible refine Im.bite_t ?_ ?_); (next => exact zq))
               | ((with_reducible refine Im.bite_f ?_ ?_); (next => exact zq))
               | ((with_reducible refine Im.bite_t ?_ ?_); (next => exact zd))
               | ((with_reducible refine Im.must ?_ ?_); (next => exact zd))
               | ((with_reducible refine Im.bite_f ?_ ?_); (next => exact zd))
               | (with_reducible refine Im.byl ?_)
               | ((with_reducible refine Im.vget ByteArray.empty ?_ ?_ ?_); (next => exact zd); (next => exact zd))
               | ((with_reducible refine Im.vget (0 : Int) ?_ ?_ ?_); (next => exact zd); (next => exact zd))
               | ((with_reducible refine Im.vget false ?_ ?_ ?_); (next => exact zd); (next => exact zd))
               | ((with_reducible refine Im.call (spec_l01Cut.vi hG ?_ _ _) ?_ (fun r hr => ?_)); (next => omega); (next => exact zr))
               | ((with_reducible refine Im.call (spec_l01Letter.vi hG ?_ _) ?_ (fun r hr => ?_)); (next => omega); (next => exact zr))
               | ((with_reducible refine Im.loop (S := fun s : ByteArray × List ByteArray × Int × ByteArray × Int => [.str s.1, .un, .un, .ow 9 1 (s.2.1.map VV.str), .int s.2.2.1, .str s.2.2.2.1, .int s.2.2.2.2, .un, .un, .un, .un, .un, .un, .un, .un, .un, .un, .un, .un, .un, .un, .un, .un, .un, .un, .un, .un, .un, .un, .un, .un, .un, .un, .un, .un, .un, .un, .un, .un, .un, .un, .un, .un, .un, .un, .un, .un, .un, .un, .un, .un, .un, .un, .un, .un, .un, .un, .un, .un, .un, .un, .un, .un, .un, .un, .un, .un, .un, .un]) (L := fun k s => spec_NameOk.l1 k s.1 s.2.1 s.2.2.1 s.2.2.2.1 s.2.2.2.2) _ ?_ ?_ _ _ ⟨_, _, _, _, _⟩ _ (Nat.le_refl _) zo ?_)
                  (next => intro s; rfl)
                  (next =>
                    intro k2 M2 ⟨x0, x3, x4, x5, x6⟩ hk2 hM2 ih2
                    conv => arg 2; simp only [spec_NameOk.l1]
                    repeat' first
                      | (with_reducible first | exact Im.none | refine Im.ite (fun h => ?_) (fun h => ?_) | refine Im.sbind ?_)
                      | ((conv => arg 3; whnf); first
                        | ((with_reducible refine Im.fin ?_); exact zr)
                        | ((with_reducible refine Im.anyo ?_ ?_); (next => kernel_rfl))
                        | ((with_reducible refine Im.bite_t ?_ ?_); (next => exact zq))
                        | ((with_reducible refine Im.bite_f ?_ ?_); (next => exact zq))
                        | ((with_reducible refine Im.bite_t ?_ ?_); (next => exact zd))
                        | ((with_reducible refine Im.must ?_ ?_); (next => exact zd))
                        | ((with_reducible refine Im.bite_f ?_ ?_); (next => exact zd))
                        | (with_reducible refine Im.byl ?_)
                        | ((with_reducible refine Im.vget ByteArray.empty ?_ ?_ ?_); (next => exact zd); (next => exact zd))
                        | ((with_reducible refine Im.vget (0 : Int) ?_ ?_ ?_); (next => exact zd); (next => exact zd))
                        | ((with_reducible refine Im.vget false ?_ ?_ ?_); (next => exact zd); (next => exact zd))
                        | ((with_reducible refine Im.call (spec_l01Cut.vi hG ?_ _ _) ?_ (fun r hr => ?_)); (next => omega); (next => exact zr))
                        | ((with_reducible refine Im.call (spec_l01Letter.vi hG ?_ _) ?_ (fun r hr => ?_)); (next => omega); (next => exact zr))
                        | ((with_reducible refine ih1 _ ⟨_, _, _⟩ _ ?_ ?_); (next => exact zo); exact zr)
                        | ((with_reducible refine ih2 _ ⟨_, _, _, _, _⟩ _ ?_ ?_); (next => exact zo); exact zr)
                        | exact zm | exact zx | fail)
                    all_goals skip)
                  exact zr)
               | exact zm | exact zx | fail)
           all_goals skip)
         exact zr)
      | exact zm | exact zx | fail)
  all_goals skip
theorem spec_Place.vi {k m : Nat} {Gv : FuncId → Option (List VV → Option (VV × List VV))} (hG : Base Gv) (hm : k + 2 ≤ m) (a0 : ByteArray) (a1 : Int) : Im (fun r => (.tu [.int r.1, .int r.2], [])) (spec_Place.f k a0 a1) (callv Tryz.prog ti keep Gv m 36 [.str a0, .int a1]) := by
  obtain ⟨m, rfl⟩ : ∃ m', m = m' + 1 := ⟨m - 1, by omega⟩
  rw [show callv Tryz.prog ti keep Gv (m + 1) 36 _ = _ from callv_enter ((hG 36 (by decide) (by decide) (by decide) (by decide) (by decide) (by decide) (by decide) (by decide) (by decide) (by decide) (by decide) (by decide) (by decide) (by decide) (by decide) (by decide) (by decide)).trans rfl) Tryz.func36 (by kernel_rfl) rfl rfl]
  unfold spec_Place.f
  repeat' first
    | (with_reducible first | exact Im.none | refine Im.ite (fun h => ?_) (fun h => ?_) | refine Im.sbind ?_)
    | ((conv => arg 3; whnf); first
      | ((with_reducible refine Im.fin ?_); exact zr)
      | ((with_reducible refine Im.anyo ?_ ?_); (next => kernel_rfl))
      | ((with_reducible refine Im.bite_t ?_ ?_); (next => exact zq))
      | ((with_reducible refine Im.bite_f ?_ ?_); (next => exact zq))
      | ((with_reducible refine Im.bite_t ?_ ?_); (next => exact zd))
      | ((with_reducible refine Im.must ?_ ?_); (next => exact zd))
      | ((with_reducible refine Im.bite_f ?_ ?_); (next => exact zd))
      | (with_reducible refine Im.byl ?_)
      | ((with_reducible refine Im.vget ByteArray.empty ?_ ?_ ?_); (next => exact zd); (next => exact zd))
      | ((with_reducible refine Im.vget (0 : Int) ?_ ?_ ?_); (next => exact zd); (next => exact zd))
      | ((with_reducible refine Im.vget false ?_ ?_ ?_); (next => exact zd); (next => exact zd))
      | ((with_reducible refine Im.call (spec_l01In.vi hG ?_ _ _ _) ?_ (fun r hr => ?_)); (next => omega); (next => exact zr))
      | ((with_reducible refine Im.loop (S := fun s : ByteArray × Int × Int × Int × Int => [.str s.1, .int s.2.1, .un, .un, .un, .un, .int s.2.2.1, .int s.2.2.2.1, .int s.2.2.2.2, .un, .un, .un, .un, .un, .un, .un, .un, .un, .un, .un, .un, .un, .un, .un, .un, .un, .un, .un, .un]) (L := fun k s => spec_Place.l0 k s.1 s.2.1 s.2.2.1 s.2.2.2.1 s.2.2.2.2) _ ?_ ?_ _ _ ⟨_, _, _, _, _⟩ _ (Nat.le_refl _) zo ?_)
         (next => intro s; rfl)
         (next =>
           intro k1 M1 ⟨x0, x1, x6, x7, x8⟩ hk1 hM1 ih1
           conv => arg 2; simp only [spec_Place.l0]
           repeat' first
             | (with_reducible first | exact Im.none | refine Im.ite (fun h => ?_) (fun h => ?_) | refine Im.sbind ?_)
             | ((conv => arg 3; whnf); first
               | ((with_reducible refine Im.fin ?_); exact zr)
               | ((with_reducible refine Im.anyo ?_ ?_); (next => kernel_rfl))
               | ((with_reducible refine Im.bite_t ?_ ?_); (next => exact zq))
               | ((with_reducible refine Im.bite_f ?_ ?_); (next => exact zq))
               | ((with_reducible refine Im.bite_t ?_ ?_); (next => exact zd))
               | ((with_reducible refine Im.must ?_ ?_); (next => exact zd))
               | ((with_reducible refine Im.bite_f ?_ ?_); (next => exact zd))
               | (with_reducible refine Im.byl ?_)
               | ((with_reducible refine Im.vget ByteArray.empty ?_ ?_ ?_); (next => exact zd); (next => exact zd))
               | ((with_reducible refine Im.vget (0 : Int) ?_ ?_ ?_); (next => exact zd); (next => exact zd))
               | ((with_reducible refine Im.vget false ?_ ?_ ?_); (next => exact zd); (next => exact zd))
               | ((with_reducible refine Im.call (spec_l01In.vi hG ?_ _ _ _) ?_ (fun r hr => ?_)); (next => omega); (next => exact zr))
               | ((with_reducible refine ih1 _ ⟨_, _, _, _, _⟩ _ ?_ ?_); (next => exact zo); exact zr)
               | exact zm | exact zx | fail)
           all_goals skip)
         exact zr)
      | exact zm | exact zx | fail)
  all_goals skip
theorem spec_PlainOk.vi {k m : Nat} {Gv : FuncId → Option (List VV → Option (VV × List VV))} (hG : Base Gv) (hm : k + 2 ≤ m) (a0 : ByteArray) : Im (fun r => (.bool r, [])) (spec_PlainOk.f k a0) (callv Tryz.prog ti keep Gv m 52 [.str a0]) := by
  obtain ⟨m, rfl⟩ : ∃ m', m = m' + 1 := ⟨m - 1, by omega⟩
  rw [show callv Tryz.prog ti keep Gv (m + 1) 52 _ = _ from callv_enter ((hG 52 (by decide) (by decide) (by decide) (by decide) (by decide) (by decide) (by decide) (by decide) (by decide) (by decide) (by decide) (by decide) (by decide) (by decide) (by decide) (by decide) (by decide)).trans rfl) Tryz.func52 (by kernel_rfl) rfl rfl]
  unfold spec_PlainOk.f
  repeat' first
    | (with_reducible first | exact Im.none | refine Im.ite (fun h => ?_) (fun h => ?_) | refine Im.sbind ?_)
    | ((conv => arg 3; whnf); first
      | ((with_reducible refine Im.fin ?_); exact zr)
      | ((with_reducible refine Im.anyo ?_ ?_); (next => kernel_rfl))
      | ((with_reducible refine Im.bite_t ?_ ?_); (next => exact zq))
      | ((with_reducible refine Im.bite_f ?_ ?_); (next => exact zq))
      | ((with_reducible refine Im.bite_t ?_ ?_); (next => exact zd))
      | ((with_reducible refine Im.must ?_ ?_); (next => exact zd))
      | ((with_reducible refine Im.bite_f ?_ ?_); (next => exact zd))
      | (with_reducible refine Im.byl ?_)
      | ((with_reducible refine Im.vget ByteArray.empty ?_ ?_ ?_); (next => exact zd); (next => exact zd))
      | ((with_reducible refine Im.vget (0 : Int) ?_ ?_ ?_); (next => exact zd); (next => exact zd))
      | ((with_reducible refine Im.vget false ?_ ?_ ?_); (next => exact zd); (next => exact zd))
      | ((with_reducible refine Im.call (spec_l01In.vi hG ?_ _ _ _) ?_ (fun r hr => ?_)); (next => omega); (next => exact zr))
      | ((with_reducible refine Im.loop (S := fun s : ByteArray × Int => [.str s.1, .un, .un, .int s.2, .un, .un, .un, .un, .un, .un, .un, .un, .un, .un, .un, .un, .un, .un, .un, .un, .un, .un, .un, .un, .un, .un, .un, .un, .un, .un, .un, .un, .un, .un, .un, .un, .un, .un, .un, .un, .un, .un, .un, .un, .un, .un, .un, .un]) (L := fun k s => spec_PlainOk.l0 k s.1 s.2) _ ?_ ?_ _ _ ⟨_, _⟩ _ (Nat.le_refl _) zo ?_)
         (next => intro s; rfl)
         (next =>
           intro k1 M1 ⟨x0, x3⟩ hk1 hM1 ih1
           conv => arg 2; simp only [spec_PlainOk.l0]
           repeat' first
             | (with_reducible first | exact Im.none | refine Im.ite (fun h => ?_) (fun h => ?_) | refine Im.sbind ?_)
             | ((conv => arg 3; whnf); first
               | ((with_reducible refine Im.fin ?_); exact zr)
               | ((with_reducible refine Im.anyo ?_ ?_); (next => kernel_rfl))
               | ((with_reducible refine Im.bite_t ?_ ?_); (next => exact zq))
               | ((with_reducible refine Im.bite_f ?_ ?_); (next => exact zq))
               | ((with_reducible refine Im.bite_t ?_ ?_); (next => exact zd))
               | ((with_reducible refine Im.must ?_ ?_); (next => exact zd))
               | ((with_reducible refine Im.bite_f ?_ ?_); (next => exact zd))
               | (with_reducible refine Im.byl ?_)
               | ((with_reducible refine Im.vget ByteArray.empty ?_ ?_ ?_); (next => exact zd); (next => exact zd))
               | ((with_reducible refine Im.vget (0 : Int) ?_ ?_ ?_); (next => exact zd); (next => exact zd))
               | ((with_reducible refine Im.vget false ?_ ?_ ?_); (next => exact zd); (next => exact zd))
               | ((with_reducible refine Im.call (spec_l01In.vi hG ?_ _ _ _) ?_ (fun r hr => ?_)); (next => omega); (next => exact zr))
               | ((with_reducible refine ih1 _ ⟨_, _⟩ _ ?_ ?_); (next => exact zo); exact zr)
               | exact zm | exact zx | fail)
           all_goals skip)
         exact zr)
      | exact zm | exact zx | fail)
  all_goals skip
end Go.Proofs.YtbfbomcfmgdpkaaGreatDoor.VI

end
section
namespace Go.Proofs.YtbfbomcfmgdpkaaGreatDoor.VI
open Go Go.RowKit Go.Proofs.YtbfbomcfmgdpkaaGreatDoor.G Go.Proofs.YtbfbomcfmgdpkaaGreatDoorW.PrintWords
set_option maxRecDepth 100000
set_option maxHeartbeats 16000000
set_option linter.unusedVariables false
set_option linter.unusedSimpArgs false
theorem spec_Quote.vi {k m : Nat} {Gv : FuncId → Option (List VV → Option (VV × List VV))} (hG : Base Gv) (hL39 : Gv 39 = some spec_Quote.gv) (hm : k + 1 ≤ m) (a0 : ByteArray) : Im (fun r => (.str r, [])) (spec_Quote.f k a0) (callv Tryz.prog ti keep Gv m 39 [.str a0]) := by
  obtain ⟨m, rfl⟩ : ∃ m', m = m' + 1 := ⟨m - 1, by omega⟩
  rw [show callv Tryz.prog ti keep Gv (m + 1) 39 _ = _ from callv_given hL39]
  intro r h
  rw [show spec_Quote.gv [.str a0] = (limF (fun k => spec_Quote.f k a0)).map (fun r => (.str r, [])) from rfl, limF_some (fun k => spec_Quote.mono _ k) h]
  rfl
end Go.Proofs.YtbfbomcfmgdpkaaGreatDoor.VI

end
section
namespace Go.Proofs.YtbfbomcfmgdpkaaGreatDoor.VI
open Go Go.RowKit Go.Proofs.YtbfbomcfmgdpkaaGreatDoor.G Go.Proofs.YtbfbomcfmgdpkaaGreatDoorW.PrintWords
set_option maxRecDepth 100000
set_option maxHeartbeats 16000000
attribute [local irreducible] bite obind vget
theorem spec_ReadDec.vi {k m : Nat} {Gv : FuncId → Option (List VV → Option (VV × List VV))} (hG : Base Gv) (hm : k + 2 ≤ m) (a0 : ByteArray) : Im (fun r => (.int r, [])) (spec_ReadDec.f k a0) (callv Tryz.prog ti keep Gv m 48 [.str a0]) := by
  obtain ⟨m, rfl⟩ : ∃ m', m = m' + 1 := ⟨m - 1, by omega⟩
  rw [show callv Tryz.prog ti keep Gv (m + 1) 48 _ = _ from callv_enter ((hG 48 (by decide) (by decide) (by decide) (by decide) (by decide) (by decide) (by decide) (by decide) (by decide) (by decide) (by decide) (by decide) (by decide) (by decide) (by decide) (by decide) (by decide)).trans rfl) Tryz.func48 (by kernel_rfl) rfl rfl]
  unfold spec_ReadDec.f
  repeat' first
    | (with_reducible first | exact Im.none | refine Im.ite (fun h => ?_) (fun h => ?_) | refine Im.sbind ?_)
    | ((conv => arg 3; whnf); first
      | ((with_reducible refine Im.fin ?_); exact zr)
      | ((with_reducible refine Im.anyo ?_ ?_); (next => kernel_rfl))
      | ((with_reducible refine Im.bite_t ?_ ?_); (next => exact zq))
      | ((with_reducible refine Im.bite_f ?_ ?_); (next => exact zq))
      | ((with_reducible refine Im.bite_t ?_ ?_); (next => exact zd))
      | ((with_reducible refine Im.must ?_ ?_); (next => exact zd))
      | ((with_reducible refine Im.bite_f ?_ ?_); (next => exact zd))
      | (with_reducible refine Im.byl ?_)
      | ((with_reducible refine Im.vget ByteArray.empty ?_ ?_ ?_); (next => exact zd); (next => exact zd))
      | ((with_reducible refine Im.vget (0 : Int) ?_ ?_ ?_); (next => exact zd); (next => exact zd))
      | ((with_reducible refine Im.vget false ?_ ?_ ?_); (next => exact zd); (next => exact zd))
      | ((with_reducible refine Im.call (spec_DecText.vi hG ?_ _) ?_ (fun r hr => ?_)); (next => omega); (next => exact zr))
      | ((with_reducible refine Im.call (spec_l01In.vi hG ?_ _ _ _) ?_ (fun r hr => ?_)); (next => omega); (next => exact zr))
      | ((with_reducible refine Im.loop (S := fun s : ByteArray × Int × Int => [.str s.1, .un, .un, .int s.2.1, .int s.2.2, .un, .un, .un, .un, .un, .un, .un, .un, .un, .un, .un, .un, .un, .un, .un, .un, .un, .un, .un, .un, .un, .un, .un, .un, .un, .un, .un, .un, .un, .un, .un, .un, .un, .un]) (L := fun k s => spec_ReadDec.l0 k s.1 s.2.1 s.2.2) _ ?_ ?_ _ _ ⟨_, _, _⟩ _ (Nat.le_refl _) zo ?_)
         (next => intro s; rfl)
         (next =>
           intro k1 M1 ⟨x0, x3, x4⟩ hk1 hM1 ih1
           conv => arg 2; simp only [spec_ReadDec.l0]
           repeat' first
             | (with_reducible first | exact Im.none | refine Im.ite (fun h => ?_) (fun h => ?_) | refine Im.sbind ?_)
             | ((conv => arg 3; whnf); first
               | ((with_reducible refine Im.fin ?_); exact zr)
               | ((with_reducible refine Im.anyo ?_ ?_); (next => kernel_rfl))
               | ((with_reducible refine Im.bite_t ?_ ?_); (next => exact zq))
               | ((with_reducible refine Im.bite_f ?_ ?_); (next => exact zq))
               | ((with_reducible refine Im.bite_t ?_ ?_); (next => exact zd))
               | ((with_reducible refine Im.must ?_ ?_); (next => exact zd))
               | ((with_reducible refine Im.bite_f ?_ ?_); (next => exact zd))
               | (with_reducible refine Im.byl ?_)
               | ((with_reducible refine Im.vget ByteArray.empty ?_ ?_ ?_); (next => exact zd); (next => exact zd))
               | ((with_reducible refine Im.vget (0 : Int) ?_ ?_ ?_); (next => exact zd); (next => exact zd))
               | ((with_reducible refine Im.vget false ?_ ?_ ?_); (next => exact zd); (next => exact zd))
               | ((with_reducible refine Im.call (spec_DecText.vi hG ?_ _) ?_ (fun r hr => ?_)); (next => omega); (next => exact zr))
               | ((with_reducible refine Im.call (spec_l01In.vi hG ?_ _ _ _) ?_ (fun r hr => ?_)); (next => omega); (next => exact zr))
               | ((with_reducible refine ih1 _ ⟨_, _, _⟩ _ ?_ ?_); (next => exact zo); exact zr)
               | exact zm | exact zx | fail)
           all_goals skip)
         exact zr)
      | exact zm | exact zx | fail)
  all_goals skip
end Go.Proofs.YtbfbomcfmgdpkaaGreatDoor.VI

end
section
namespace Go.Proofs.YtbfbomcfmgdpkaaGreatDoor.VI
open Go Go.RowKit Go.Proofs.YtbfbomcfmgdpkaaGreatDoor.G Go.Proofs.YtbfbomcfmgdpkaaGreatDoorW.PrintWords
set_option maxRecDepth 100000
set_option maxHeartbeats 16000000
set_option linter.unusedVariables false
set_option linter.unusedSimpArgs false
theorem spec_Unquote.vi {k m : Nat} {Gv : FuncId → Option (List VV → Option (VV × List VV))} (hG : Base Gv) (hL26 : Gv 26 = some spec_Unquote.gv) (hm : k + 1 ≤ m) (a0 : ByteArray) (a1 : Int) : Im (fun r => (.tu [.str r.1, .int r.2], [])) (spec_Unquote.f k a0 a1) (callv Tryz.prog ti keep Gv m 26 [.str a0, .int a1]) := by
  obtain ⟨m, rfl⟩ : ∃ m', m = m' + 1 := ⟨m - 1, by omega⟩
  rw [show callv Tryz.prog ti keep Gv (m + 1) 26 _ = _ from callv_given hL26]
  intro r h
  rw [show spec_Unquote.gv [.str a0, .int a1] = (limF (fun k => spec_Unquote.f k a0 a1)).map (fun r => (.tu [.str r.1, .int r.2], [])) from rfl, limF_some (fun k => spec_Unquote.mono _ _ k) h]
  rfl
end Go.Proofs.YtbfbomcfmgdpkaaGreatDoor.VI

end
section
namespace Go.Proofs.YtbfbomcfmgdpkaaGreatDoor.VI
open Go Go.RowKit Go.Proofs.YtbfbomcfmgdpkaaGreatDoor.G Go.Proofs.YtbfbomcfmgdpkaaGreatDoorW.PrintWords
set_option maxRecDepth 100000
set_option maxHeartbeats 16000000
attribute [local irreducible] bite obind vget
theorem spec_Words.vi {k m : Nat} {Gv : FuncId → Option (List VV → Option (VV × List VV))} (hG : Base Gv) (hm : k + 2 ≤ m) (a0 : ByteArray) : Im (fun r => (.ow 9 1 (r.map VV.str), [])) (spec_Words.f k a0) (callv Tryz.prog ti keep Gv m 42 [.str a0]) := by
  obtain ⟨m, rfl⟩ : ∃ m', m = m' + 1 := ⟨m - 1, by omega⟩
  rw [show callv Tryz.prog ti keep Gv (m + 1) 42 _ = _ from callv_enter ((hG 42 (by decide) (by decide) (by decide) (by decide) (by decide) (by decide) (by decide) (by decide) (by decide) (by decide) (by decide) (by decide) (by decide) (by decide) (by decide) (by decide) (by decide)).trans rfl) Tryz.func42 (by kernel_rfl) rfl rfl]
  unfold spec_Words.f
  repeat' first
    | (with_reducible first | exact Im.none | refine Im.ite (fun h => ?_) (fun h => ?_) | refine Im.sbind ?_)
    | ((conv => arg 3; whnf); first
      | ((with_reducible refine Im.fin ?_); exact zr)
      | ((with_reducible refine Im.anyo ?_ ?_); (next => kernel_rfl))
      | ((with_reducible refine Im.bite_t ?_ ?_); (next => exact zq))
      | ((with_reducible refine Im.bite_f ?_ ?_); (next => exact zq))
      | ((with_reducible refine Im.bite_t ?_ ?_); (next => exact zd))
      | ((with_reducible refine Im.must ?_ ?_); (next => exact zd))
      | ((with_reducible refine Im.bite_f ?_ ?_); (next => exact zd))
      | (with_reducible refine Im.byl ?_)
      | ((with_reducible refine Im.vget ByteArray.empty ?_ ?_ ?_); (next => exact zd); (next => exact zd))
      | ((with_reducible refine Im.vget (0 : Int) ?_ ?_ ?_); (next => exact zd); (next => exact zd))
      | ((with_reducible refine Im.vget false ?_ ?_ ?_); (next => exact zd); (next => exact zd))
      | ((with_reducible refine Im.call (spec_l01Cut.vi hG ?_ _ _) ?_ (fun r hr => ?_)); (next => omega); (next => exact zr))
      | exact zm | exact zx | fail)
  all_goals skip
end Go.Proofs.YtbfbomcfmgdpkaaGreatDoor.VI

end
section
namespace Go.Proofs.YtbfbomcfmgdpkaaGreatDoor.VI
open Go Go.RowKit Go.Proofs.YtbfbomcfmgdpkaaGreatDoor.G Go.Proofs.YtbfbomcfmgdpkaaGreatDoorW.PrintWords
set_option maxRecDepth 100000
set_option maxHeartbeats 16000000
set_option linter.unusedVariables false
set_option linter.unusedSimpArgs false
attribute [local irreducible] bite obind vget
theorem laws_FnTexts.vi {k m : Nat} {Gv : FuncId → Option (List VV → Option (VV × List VV))} (hG : Base Gv) (hL22 : Gv 22 = some spec_DrawQuote.gv) (hL23 : Gv 23 = some impl_Quote.gv) (hL24 : Gv 24 = some spec_DrawUnquote.gv) (hL25 : Gv 25 = some impl_Unquote.gv) (hL26 : Gv 26 = some spec_Unquote.gv) (hL27 : Gv 27 = some spec_DrawLines.gv) (hL28 : Gv 28 = some impl_Lines.gv) (hL29 : Gv 29 = some spec_DrawWords.gv) (hL31 : Gv 31 = some spec_DrawIndent.gv) (hL32 : Gv 32 = some spec_DrawDecText.gv) (hL33 : Gv 33 = some spec_DrawReadDec.gv) (hL34 : Gv 34 = some spec_DrawPlace.gv) (hL35 : Gv 35 = some impl_Place.gv) (hL37 : Gv 37 = some spec_DrawNameOk.gv) (hL38 : Gv 38 = some spec_DrawPlainOk.gv) (hL39 : Gv 39 = some spec_Quote.gv) (hL41 : Gv 41 = some spec_Lines.gv) (hm : k + 5 ≤ m) (l0 : List Int) : Im (fun r => (.bool r, [])) ((laws_FnTexts.f k l0).bind keepT) (callv Tryz.prog ti keep Gv m 4 [.sl (l0.map VV.byte)]) := by
  obtain ⟨m, rfl⟩ : ∃ m', m = m' + 1 := ⟨m - 1, by omega⟩
  rw [show callv Tryz.prog ti keep Gv (m + 1) 4 _ = _ from callv_enter ((hG 4 (by decide) (by decide) (by decide) (by decide) (by decide) (by decide) (by decide) (by decide) (by decide) (by decide) (by decide) (by decide) (by decide) (by decide) (by decide) (by decide) (by decide)).trans rfl) Tryz.func4 (by kernel_rfl) rfl rfl]
  unfold laws_FnTexts.f
  simp only [ite_bindT, bind_bindT, some_bindT, none_bindT, keepT_t, keepT_f, bne_iff_ne, ne_eq, ite_not]
  repeat' first
    | ((with_reducible apply Im.vopc); (case h => (intro K'; (conv => lhs; whnf); done)))
    | ((with_reducible refine Im.nat (fun k => (laws_FnTexts.j0 k _ _ _ _ _ _ _ _ _ _ _).bind keepT) _ ?_ (fun kj hkj => ?_)); (next => rfl); (conv => arg 2; simp only [laws_FnTexts.j0, Bool.false_eq_true, reduceIte, ite_bindT, bind_bindT, some_bindT, none_bindT, keepT_t, keepT_f, bne_iff_ne, ne_eq, ite_not]))
    | (with_reducible first | exact Im.none | refine Im.ite (fun h => ?_) (fun h => ?_) | refine Im.sbind ?_)
    | ((conv => arg 3; whnf); first
      | ((with_reducible refine Im.keepT ?_); exact zr)
      | ((with_reducible refine Im.fin ?_); exact zr)
      | ((with_reducible refine Im.anyo ?_ ?_); (next => kernel_rfl))
      | ((with_reducible refine Im.bite_t ?_ ?_); (next => exact zq))
      | ((with_reducible refine Im.bite_f ?_ ?_); (next => exact zq))
      | ((with_reducible refine Im.bite_t ?_ ?_); (next => exact zd))
      | ((with_reducible refine Im.must ?_ ?_); (next => exact zd))
      | ((with_reducible refine Im.bite_f ?_ ?_); (next => exact zd))
      | (with_reducible refine Im.byl ?_)
      | ((with_reducible refine Im.vget ByteArray.empty ?_ ?_ ?_); (next => exact zd); (next => exact zd))
      | ((with_reducible refine Im.vget (0 : Int) ?_ ?_ ?_); (next => exact zd); (next => exact zd))
      | ((with_reducible refine Im.vget false ?_ ?_ ?_); (next => exact zd); (next => exact zd))
      | ((with_reducible refine Im.call (impl_DecText.vi hG ?_ _) ?_ (fun r hr => ?_)); (next => omega); (next => exact zr))
      | ((with_reducible refine Im.call (impl_Indent.vi hG ?_ _) ?_ (fun r hr => ?_)); (next => omega); (next => exact zr))
      | ((with_reducible refine Im.call (impl_Lines.vi hG hL28 ?_ _) ?_ (fun r hr => ?_)); (next => omega); (next => exact zr))
      | ((with_reducible refine Im.call (impl_NameOk.vi hG ?_ _) ?_ (fun r hr => ?_)); (next => omega); (next => exact zr))
      | ((with_reducible refine Im.call (impl_Place.vi hG hL35 ?_ _ _) ?_ (fun r hr => ?_)); (next => omega); (next => exact zr))
      | ((with_reducible refine Im.call (impl_PlainOk.vi hG ?_ _) ?_ (fun r hr => ?_)); (next => omega); (next => exact zr))
      | ((with_reducible refine Im.call (impl_Quote.vi hG hL23 ?_ _) ?_ (fun r hr => ?_)); (next => omega); (next => exact zr))
      | ((with_reducible refine Im.call (impl_ReadDec.vi hG ?_ _) ?_ (fun r hr => ?_)); (next => omega); (next => exact zr))
      | ((with_reducible refine Im.call (impl_Unquote.vi hG hL25 ?_ _ _) ?_ (fun r hr => ?_)); (next => omega); (next => exact zr))
      | ((with_reducible refine Im.call (impl_Words.vi hG ?_ _) ?_ (fun r hr => ?_)); (next => omega); (next => exact zr))
      | ((with_reducible refine Im.call (laws_big.vi hG ?_ _) ?_ (fun r hr => ?_)); (next => omega); (next => exact zr))
      | ((with_reducible refine Im.call (laws_sameTexts.vi hG ?_ _ _) ?_ (fun r hr => ?_)); (next => omega); (next => exact zr))
      | ((with_reducible refine Im.call (spec_DecText.vi hG ?_ _) ?_ (fun r hr => ?_)); (next => omega); (next => exact zr))
      | ((with_reducible refine Im.call (spec_DrawDecText.vi hG hL32 ?_ _) ?_ (fun r hr => ?_)); (next => omega); (next => exact zr))
      | ((with_reducible refine Im.call (spec_DrawIndent.vi hG hL31 ?_ _) ?_ (fun r hr => ?_)); (next => omega); (next => exact zr))
      | ((with_reducible refine Im.call (spec_DrawLines.vi hG hL27 ?_ _) ?_ (fun r hr => ?_)); (next => omega); (next => exact zr))
      | ((with_reducible refine Im.call (spec_DrawNameOk.vi hG hL37 ?_ _) ?_ (fun r hr => ?_)); (next => omega); (next => exact zr))
      | ((with_reducible refine Im.call (spec_DrawPlace.vi hG hL34 ?_ _) ?_ (fun r hr => ?_)); (next => omega); (next => exact zr))
      | ((with_reducible refine Im.call (spec_DrawPlainOk.vi hG hL38 ?_ _) ?_ (fun r hr => ?_)); (next => omega); (next => exact zr))
      | ((with_reducible refine Im.call (spec_DrawQuote.vi hG hL22 ?_ _) ?_ (fun r hr => ?_)); (next => omega); (next => exact zr))
      | ((with_reducible refine Im.call (spec_DrawReadDec.vi hG hL33 ?_ _) ?_ (fun r hr => ?_)); (next => omega); (next => exact zr))
      | ((with_reducible refine Im.call (spec_DrawUnquote.vi hG hL24 ?_ _) ?_ (fun r hr => ?_)); (next => omega); (next => exact zr))
      | ((with_reducible refine Im.call (spec_DrawWords.vi hG hL29 ?_ _) ?_ (fun r hr => ?_)); (next => omega); (next => exact zr))
      | ((with_reducible refine Im.call (spec_Indent.vi hG ?_ _) ?_ (fun r hr => ?_)); (next => omega); (next => exact zr))
      | ((with_reducible refine Im.call (spec_Lines.vi hG hL41 ?_ _) ?_ (fun r hr => ?_)); (next => omega); (next => exact zr))
      | ((with_reducible refine Im.call (spec_NameOk.vi hG ?_ _) ?_ (fun r hr => ?_)); (next => omega); (next => exact zr))
      | ((with_reducible refine Im.call (spec_Place.vi hG ?_ _ _) ?_ (fun r hr => ?_)); (next => omega); (next => exact zr))
      | ((with_reducible refine Im.call (spec_PlainOk.vi hG ?_ _) ?_ (fun r hr => ?_)); (next => omega); (next => exact zr))
      | ((with_reducible refine Im.call (spec_Quote.vi hG hL39 ?_ _) ?_ (fun r hr => ?_)); (next => omega); (next => exact zr))
      | ((with_reducible refine Im.call (spec_ReadDec.vi hG ?_ _) ?_ (fun r hr => ?_)); (next => omega); (next => exact zr))
      | ((with_reducible refine Im.call (spec_Unquote.vi hG hL26 ?_ _ _) ?_ (fun r hr => ?_)); (next => omega); (next => exact zr))
      | ((with_reducible refine Im.call (spec_Words.vi hG ?_ _) ?_ (fun r hr => ?_)); (next => omega); (next => exact zr))
      | ((with_reducible refine Im.loop (S := fun s : ByteArray × ByteArray × ByteArray × Int × ByteArray × Int × ByteArray × List ByteArray × ByteArray × Int × ByteArray × Int => [.un, .un, .un, .str s.1, .str s.2.1, .str s.2.2.1, .int s.2.2.2.1, .str s.2.2.2.2.1, .int s.2.2.2.2.2.1, .un, .un, .str s.2.2.2.2.2.2.1, .ow 9 1 (s.2.2.2.2.2.2.2.1.map VV.str), .un, .un, .un, .un, .un, .str s.2.2.2.2.2.2.2.2.1, .un, .int s.2.2.2.2.2.2.2.2.2.1, .un, .un, .un, .un, .un, .str s.2.2.2.2.2.2.2.2.2.2.1, .int s.2.2.2.2.2.2.2.2.2.2.2, .un, .un, .un, .un, .un, .un, .un, .un, .un, .un, .un, .un, .un, .un, .un, .un, .un, .un, .un, .un, .un, .un, .un, .un, .un, .un, .un, .un, .un, .un, .un, .un, .un, .un, .un, .un, .un, .un, .un, .un, .un, .un, .un, .un, .un, .un, .un, .un, .un, .un, .un, .un, .un, .un, .un, .un, .un, .un, .un, .un, .un, .un, .un, .un, .un, .un, .un, .un, .un, .un, .un, .un, .un, .un, .un, .un, .un, .un, .un, .un, .un, .un, .un, .un, .un, .un, .un, .un, .un, .un, .un, .un, .un, .un, .un, .un, .un, .un, .un, .un, .un, .un, .un, .un, .un, .un, .un, .un, .un, .un, .un, .un, .un, .un, .un, .un, .un, .un, .un, .un, .un, .un, .un, .un, .un, .un, .un, .un, .un, .un, .un, .un, .un, .un, .un, .un, .un, .un, .un, .un, .un, .un, .un, .un, .un, .un, .un, .un, .un, .un, .un, .un, .un, .un, .un, .un, .un, .un, .un, .un, .un, .un, .un, .un, .un, .un, .un, .un, .un, .un, .un, .un, .un, .un, .un, .un, .un, .un, .un, .un, .un, .un, .un, .un, .un, .un, .un, .un, .un, .un, .un, .un]) (L := fun k s => (laws_FnTexts.l0 k s.1 s.2.1 s.2.2.1 s.2.2.2.1 s.2.2.2.2.1 s.2.2.2.2.2.1 s.2.2.2.2.2.2.1 s.2.2.2.2.2.2.2.1 s.2.2.2.2.2.2.2.2.1 s.2.2.2.2.2.2.2.2.2.1 s.2.2.2.2.2.2.2.2.2.2.1 s.2.2.2.2.2.2.2.2.2.2.2).bind keepT) _ ?_ ?_ _ _ ⟨_, _, _, _, _, _, _, _, _, _, _, _⟩ _ (Nat.le_refl _) zo ?_)
         (next => intro s; rfl)
         (next =>
           intro k1 M1 ⟨x3, x4, x5, x6, x7, x8, x11, x12, x18, x20, x26, x27⟩ hk1 hM1 ih1
           conv => arg 2; simp only [laws_FnTexts.l0, ite_bindT, bind_bindT, some_bindT, none_bindT, keepT_t, keepT_f, bne_iff_ne, ne_eq, ite_not]
           repeat' first
             | ((with_reducible apply Im.vopc); (case h => (intro K'; (conv => lhs; whnf); done)))
             | ((with_reducible refine Im.nat (fun k => (laws_FnTexts.j2 k _ _ _ _ _).bind keepT) _ ?_ (fun kj hkj => ?_)); (next => rfl); (conv => arg 2; simp only [laws_FnTexts.j2, Bool.false_eq_true, reduceIte, ite_bindT, bind_bindT, some_bindT, none_bindT, keepT_t, keepT_f, bne_iff_ne, ne_eq, ite_not]))
             | (with_reducible first | exact Im.none | refine Im.ite (fun h => ?_) (fun h => ?_) | refine Im.sbind ?_)
             | ((conv => arg 3; whnf); first
               | ((with_reducible refine Im.keepT ?_); exact zr)
               | ((with_reducible refine Im.fin ?_); exact zr)
               | ((with_reducible refine Im.anyo ?_ ?_); (next => kernel_rfl))
               | ((with_reducible refine Im.bite_t ?_ ?_); (next => exact zq))
               | ((with_reducible refine Im.bite_f ?_ ?_); (next => exact zq))
               | ((with_reducible refine Im.bite_t ?_ ?_); (next => exact zd))
               | ((with_reducible refine Im.must ?_ ?_); (next => exact zd))
               | ((with_reducible refine Im.bite_f ?_ ?_); (next => exact zd))
               | (with_reducible refine Im.byl ?_)
               | ((with_reducible refine Im.vget ByteArray.empty ?_ ?_ ?_); (next => exact zd); (next => exact zd))
               | ((with_reducible refine Im.vget (0 : Int) ?_ ?_ ?_); (next => exact zd); (next => exact zd))
               | ((with_reducible refine Im.vget false ?_ ?_ ?_); (next => exact zd); (next => exact zd))
               | ((with_reducible refine Im.call (impl_DecText.vi hG ?_ _) ?_ (fun r hr => ?_)); (next => omega); (next => exact zr))
               | ((with_reducible refine Im.call (impl_Indent.vi hG ?_ _) ?_ (fun r hr => ?_)); (next => omega); (next => exact zr))
               | ((with_reducible refine Im.call (impl_Lines.vi hG hL28 ?_ _) ?_ (fun r hr => ?_)); (next => omega); (next => exact zr))
               | ((with_reducible refine Im.call (impl_NameOk.vi hG ?_ _) ?_ (fun r hr => ?_)); (next => omega); (next => exact zr))
               | ((with_reducible refine Im.call (impl_Place.vi hG hL35 ?_ _ _) ?_ (fun r hr => ?_)); (next => omega); (next => exact zr))
               | ((with_reducible refine Im.call (impl_PlainOk.vi hG ?_ _) ?_ (fun r hr => ?_)); (next => omega); (next => exact zr))
               | ((with_reducible refine Im.call (impl_Quote.vi hG hL23 ?_ _) ?_ (fun r hr => ?_)); (next => omega); (next => exact zr))
               | ((with_reducible refine Im.call (impl_ReadDec.vi hG ?_ _) ?_ (fun r hr => ?_)); (next => omega); (next => exact zr))
               | ((with_reducible refine Im.call (impl_Unquote.vi hG hL25 ?_ _ _) ?_ (fun r hr => ?_)); (next => omega); (next => exact zr))
               | ((with_reducible refine Im.call (impl_Words.vi hG ?_ _) ?_ (fun r hr => ?_)); (next => omega); (next => exact zr))
               | ((with_reducible refine Im.call (laws_big.vi hG ?_ _) ?_ (fun r hr => ?_)); (next => omega); (next => exact zr))
               | ((with_reducible refine Im.call (laws_sameTexts.vi hG ?_ _ _) ?_ (fun r hr => ?_)); (next => omega); (next => exact zr))
               | ((with_reducible refine Im.call (spec_DecText.vi hG ?_ _) ?_ (fun r hr => ?_)); (next => omega); (next => exact zr))
               | ((with_reducible refine Im.call (spec_DrawDecText.vi hG hL32 ?_ _) ?_ (fun r hr => ?_)); (next => omega); (next => exact zr))
               | ((with_reducible refine Im.call (spec_DrawIndent.vi hG hL31 ?_ _) ?_ (fun r hr => ?_)); (next => omega); (next => exact zr))
               | ((with_reducible refine Im.call (spec_DrawLines.vi hG hL27 ?_ _) ?_ (fun r hr => ?_)); (next => omega); (next => exact zr))
               | ((with_reducible refine Im.call (spec_DrawNameOk.vi hG hL37 ?_ _) ?_ (fun r hr => ?_)); (next => omega); (next => exact zr))
               | ((with_reducible refine Im.call (spec_DrawPlace.vi hG hL34 ?_ _) ?_ (fun r hr => ?_)); (next => omega); (next => exact zr))
               | ((with_reducible refine Im.call (spec_DrawPlainOk.vi hG hL38 ?_ _) ?_ (fun r hr => ?_)); (next => omega); (next => exact zr))
               | ((with_reducible refine Im.call (spec_DrawQuote.vi hG hL22 ?_ _) ?_ (fun r hr => ?_)); (next => omega); (next => exact zr))
               | ((with_reducible refine Im.call (spec_DrawReadDec.vi hG hL33 ?_ _) ?_ (fun r hr => ?_)); (next => omega); (next => exact zr))
               | ((with_reducible refine Im.call (spec_DrawUnquote.vi hG hL24 ?_ _) ?_ (fun r hr => ?_)); (next => omega); (next => exact zr))
               | ((with_reducible refine Im.call (spec_DrawWords.vi hG hL29 ?_ _) ?_ (fun r hr => ?_)); (next => omega); (next => exact zr))
               | ((with_reducible refine Im.call (spec_Indent.vi hG ?_ _) ?_ (fun r hr => ?_)); (next => omega); (next => exact zr))
               | ((with_reducible refine Im.call (spec_Lines.vi hG hL41 ?_ _) ?_ (fun r hr => ?_)); (next => omega); (next => exact zr))
               | ((with_reducible refine Im.call (spec_NameOk.vi hG ?_ _) ?_ (fun r hr => ?_)); (next => omega); (next => exact zr))
               | ((with_reducible refine Im.call (spec_Place.vi hG ?_ _ _) ?_ (fun r hr => ?_)); (next => omega); (next => exact zr))
               | ((with_reducible refine Im.call (spec_PlainOk.vi hG ?_ _) ?_ (fun r hr => ?_)); (next => omega); (next => exact zr))
               | ((with_reducible refine Im.call (spec_Quote.vi hG hL39 ?_ _) ?_ (fun r hr => ?_)); (next => omega); (next => exact zr))
               | ((with_reducible refine Im.call (spec_ReadDec.vi hG ?_ _) ?_ (fun r hr => ?_)); (next => omega); (next => exact zr))
               | ((with_reducible refine Im.call (spec_Unquote.vi hG hL26 ?_ _ _) ?_ (fun r hr => ?_)); (next => omega); (next => exact zr))
               | ((with_reducible refine Im.call (spec_Words.vi hG ?_ _) ?_ (fun r hr => ?_)); (next => omega); (next => exact zr))
               | ((with_reducible refine ih1 _ ⟨_, _, _, _, _, _, _, _, _, _, _, _⟩ _ ?_ ?_); (next => exact zo); exact zr)
               | exact zm | exact zx | fail)
           all_goals skip)
         exact zr)
      | exact zm | exact zx | fail)
  all_goals skip
end Go.Proofs.YtbfbomcfmgdpkaaGreatDoor.VI

end
section
namespace Go.Proofs.YtbfbomcfmgdpkaaGreatDoor.G
open Go Go.RowKit Go.Proofs.YtbfbomcfmgdpkaaGreatDoorW.PrintWords Go.Proofs.YtbfbomcfmgdpkaaGreatDoor.VI
set_option maxRecDepth 100000
set_option linter.unusedVariables false
set_option linter.unusedSimpArgs false
theorem laws_FnTexts.calls (k : Nat) (A0 : Option Addr) (c0 : Nat) (l0 : List Int) (r : Bool) (w : World) (hr0 : Kd.C (Kd.int .u8) w A0 l0.length l0) (hc0 : l0.length ≤ c0) (hGE : Glob FactE w) (hGM : Glob FactM w) (hGT : Glob FactT w) (hr_ : r = true) (h : laws_FnTexts.f k l0 = some r) :
  Calls Tryz.prog 4 #[.slice A0 l0.length c0] w fun e w' => e = .returned (.bool r) ∧ Below w.heap.size w w' := by
  have gws : ∀ a b, Below w.heap.size w a → Below w.heap.size a b → Below w.heap.size w b := fun a b h1 h2 => h1.trans h2
  have hok := callv_ok (P := Tryz.prog) (NG := w.heap.size) (GW := fun a => Below w.heap.size w a) VI.hti gws (keep := keep) (Gv := Gv) (given_ok hGE hGM hGT) (fun C hC hc => any_sound (by kernel_rfl) (by rw [hC]; exact VI.hti) gws hc) (k + 5)
  exact CallOk1.calls (hok 4 _ _ rfl (laws_FnTexts.vi (k := k) (m := k + 5) base1 rfl rfl rfl rfl rfl rfl rfl rfl rfl rfl rfl rfl rfl rfl rfl rfl rfl (Nat.le_refl _) l0 _ (by rw [h, hr_]; rfl))) (Below.refl _ _) (Nat.le_refl _) (.cons _ _ _ _ (dr_row (enc := VV.byte) kv_byte hc0 hr0) .nil)
end Go.Proofs.YtbfbomcfmgdpkaaGreatDoor.G

end
section
namespace Go.Proofs.YtbfbomcfmgdpkaaGreatDoor.U
open Go Go.RowKit Go.Proofs.YtbfbomcfmgdpkaaGreatDoorW.PrintWords
set_option linter.unusedVariables false
set_option linter.unusedSimpArgs false
abbrev B := List UInt8
def L (s : ByteArray) : B := s.data.toList
def S (l : B) : ByteArray := ⟨l.toArray⟩
def I (l : B) : List Int := l.map fun b => (b.toNat : Int)
@[simp] theorem L_S (l : B) : L (S l) = l := by simp [L, S]
@[simp] theorem S_L (s : ByteArray) : S (L s) = s := rfl
theorem L_inj {s t : ByteArray} (h : L s = L t) : s = t := by rw [← S_L s, ← S_L t, h]
theorem size_L (s : ByteArray) : s.size = (L s).length := Go.Lib.size_eq s
@[simp] theorem size_S (l : B) : (S l).size = l.length := by rw [size_L, L_S]
theorem toList_L (s : ByteArray) : s.toList = L s := Go.Lib.toList_data s
@[simp] theorem toList_S (l : B) : (S l).toList = l := by rw [toList_L, L_S]
@[simp] theorem L_append (s t : ByteArray) : L (s ++ t) = L s ++ L t := by simp [L, ByteArray.data_append]
@[simp] theorem S_append (l m : B) : S l ++ S m = S (l ++ m) := L_inj (by simp)
theorem L_extract (s : ByteArray) (a b : Nat) : L (s.extract a b) = ((L s).drop a).take (b - a) := Go.Lib.extract_data s a b
@[simp] theorem I_length (l : B) : (I l).length = l.length := by simp [I]
@[simp] theorem I_nil : I [] = [] := rfl
theorem I_append (l m : B) : I (l ++ m) = I l ++ I m := by simp [I]
@[simp] theorem str_I (l : B) : strOfNums (I l) = S l := by
  unfold strOfNums I S
  rw [List.map_map]
  congr 2
  have e : ((fun n : Int => UInt8.ofNat n.toNat) ∘ fun b : UInt8 => (b.toNat : Int)) = id := by funext b; simp
  rw [e, List.map_id]
@[simp] theorem str_nil : strOfNums [] = S [] := rfl
theorem bytesOf_I (s : ByteArray) : bytesOf s = I (L s) := rfl
theorem bt_S (l : B) (i : Int) (h : i.toNat < l.length) : bt (S l) i = ((l[i.toNat]).toNat : Int) := by
  have h' : i.toNat < (S l).size := by simpa using h
  rw [← bt_at (S l) i h']
  rfl
theorem bt_L (s : ByteArray) (i : Int) (h : i.toNat < (L s).length) : bt s i = (((L s)[i.toNat]).toNat : Int) := by
  have := bt_S (L s) i h
  rwa [S_L] at this
def at_ (l : B) (i : Nat) : UInt8 := l.getD i 0
theorem at_eq (l : B) (i : Nat) (h : i < l.length) : at_ l i = l[i] := by simp [at_, h]
theorem bt_at_ (s : ByteArray) (i : Int) : bt s i = ((at_ (L s) i.toNat).toNat : Int) := by
  by_cases h : i.toNat < (L s).length
  · rw [bt_L s i h, at_eq _ _ h]
  · have h2 : ¬ i.toNat < s.size := by rw [size_L]; exact h
    have h3 : at_ (L s) i.toNat = 0 := by simp [at_, List.getD_eq_getElem?_getD, List.getElem?_eq_none (Nat.le_of_not_lt h)]
    rw [h3]; unfold bt; rw [dif_neg h2]; rfl
theorem bt_nat (s : ByteArray) (i : Nat) : bt s (i : Int) = ((at_ (L s) i).toNat : Int) := bt_at_ s i
theorem byte_lt (c : UInt8) : (c.toNat : Int) < 256 := by have := c.toNat_lt; omega
theorem byte_inj {c d : UInt8} (h : (c.toNat : Int) = (d.toNat : Int)) : c = d := UInt8.toNat_inj.1 (by omega)
theorem byte_is (c d : UInt8) (n : Int) (h : (d.toNat : Int) = n) : ((c.toNat : Int) = n) ↔ c = d := by
  subst h; exact ⟨byte_inj, fun e => by rw [e]⟩
theorem drop_at (l : B) (i : Nat) (h : i < l.length) : l.drop i = at_ l i :: l.drop (i + 1) := by
  rw [at_eq l i h]; exact List.drop_eq_getElem_cons h
theorem take_at (l : B) (i : Nat) (h : i < l.length) : l.take (i + 1) = l.take i ++ [at_ l i] := by
  rw [at_eq l i h, List.take_succ_eq_append_getElem h]
theorem w64 {n : Int} (h0 : -9223372036854775808 ≤ n) (h1 : n ≤ 9223372036854775807) : wrap64 n = n := by unfold wrap64; omega
theorem ev_ite_pos {α : Type} {c : Nat → Prop} [∀ k, Decidable (c k)] {g f : Nat → Option α} {r : α} (hc : ∀ k, c k) (h : Ev g r) : Ev (fun k => if c k then g k else f k) r := Ev.congr (fun k => by rw [if_pos (hc k)]) h
theorem ev_ite_neg {α : Type} {c : Nat → Prop} [∀ k, Decidable (c k)] {g f : Nat → Option α} {r : α} (hc : ∀ k, ¬ c k) (h : Ev f r) : Ev (fun k => if c k then g k else f k) r := Ev.congr (fun k => by rw [if_neg (hc k)]) h
theorem ev_pos {α : Type} {c : Prop} [Decidable c] {g f : Nat → Option α} {r : α} (hc : c) (h : Ev g r) : Ev (fun k => if c then g k else f k) r := ev_ite_pos (fun _ => hc) h
theorem ev_neg {α : Type} {c : Prop} [Decidable c] {g f : Nat → Option α} {r : α} (hc : ¬ c) (h : Ev f r) : Ev (fun k => if c then g k else f k) r := ev_ite_neg (fun _ => hc) h
theorem ev_some {α β : Type} {a : α} {f : Nat → α → Option β} {r : β} (h : Ev (fun k => f k a) r) : Ev (fun k => (some a).bind (f k)) r := h
theorem ev_const {α β : Type} {g : Option α} {a : α} (hg : g = some a) {f : Nat → α → Option β} {r : β} (h : Ev (fun k => f k a) r) : Ev (fun k => g.bind (f k)) r := by subst hg; exact h
theorem ev_use {α : Type} {g : Nat → Option α} {a b : α} (h : Ev g a) (e : a = b) : Ev g b := e ▸ h
theorem loop_up {σ α : Type} (g : Nat → Int → σ → Option α) (n : Nat) (Inv : Nat → σ → Prop) (res : Nat → σ → α)
    (hend : ∀ st, Inv n st → Ev (fun k => g k (n : Int) st) (res n st))
    (hstep : ∀ i st, i < n → Inv i st → (∀ st', Inv (i + 1) st' → Ev (fun k => g k ((i + 1 : Nat) : Int) st') (res (i + 1) st')) → Ev (fun k => g k (i : Int) st) (res i st)) :
    ∀ i st, i ≤ n → Inv i st → Ev (fun k => g k (i : Int) st) (res i st) := by
  intro i st hi
  obtain ⟨d, hd⟩ : ∃ d, i + d = n := ⟨n - i, by omega⟩
  clear hi
  induction d generalizing i st with
  | zero => intro h; have e : i = n := by omega
            subst e; exact hend st h
  | succ d ih => intro h; exact hstep i st (by omega) h fun st' h' => ih (i + 1) st' (by omega) h'
theorem inc (i : Nat) (h : i < 9223372036854775807) : wrap64 ((i : Int) + 1) = ((i + 1 : Nat) : Int) := by rw [w64 (by omega) (by omega)]; omega
theorem wa1 (j : Nat) (h : j ≤ 1125899906842624) : wrap64 ((j : Int) + 1) = ((j + 1 : Nat) : Int) := by rw [w64 (by omega) (by omega)]; omega
theorem wa2 (j : Nat) (h : j ≤ 1125899906842624) : wrap64 ((j : Int) + 2) = ((j + 2 : Nat) : Int) := by rw [w64 (by omega) (by omega)]; omega
theorem wa3 (j : Nat) (h : j ≤ 1125899906842624) : wrap64 ((j : Int) + 3) = ((j + 3 : Nat) : Int) := by rw [w64 (by omega) (by omega)]; omega
theorem wa4 (j : Nat) (h : j ≤ 1125899906842624) : wrap64 ((j : Int) + 4) = ((j + 4 : Nat) : Int) := by rw [w64 (by omega) (by omega)]; omega
theorem all_bytes {p : UInt8 → Prop} (h : ∀ n, n < 256 → p (UInt8.ofNat n)) (c : UInt8) : p c := by
  have := h c.toNat c.toNat_lt
  rwa [UInt8.ofNat_toNat] at this
end Go.Proofs.YtbfbomcfmgdpkaaGreatDoor.U

end
section
namespace Go.Proofs.YtbfbomcfmgdpkaaGreatDoor.U
open Go Go.RowKit Go.Proofs.YtbfbomcfmgdpkaaGreatDoorW.PrintWords Go.Proofs.YtbfbomcfmgdpkaaGreatDoor.G
set_option linter.unusedVariables false
set_option linter.unusedSimpArgs false
def hexd : B := [48, 49, 50, 51, 52, 53, 54, 55, 56, 57, 97, 98, 99, 100, 101, 102]
def hexOf (c : UInt8) : B := [at_ hexd (c.toNat / 16), at_ hexd (c.toNat % 16)]
def putHex (l : B) : B := l.flatMap hexOf
theorem putHex_nil : putHex [] = [] := rfl
theorem putHex_cons (c : UInt8) (l : B) : putHex (c :: l) = hexOf c ++ putHex l := rfl
theorem I_hexOf (c : UInt8) (a b : Int) (ha : a = ((c.toNat / 16 : Nat) : Int)) (hb : b = ((c.toNat % 16 : Nat) : Int)) : [bt (S hexd) a, bt (S hexd) b] = I (hexOf c) := by
  subst ha; subst hb
  rw [bt_nat, bt_nat, L_S]; rfl
theorem spec_PutHex_loop (s : ByteArray) (hs : s.size ≤ 1099511627776) (d : Nat) : ∀ (i : Nat) (acc : B), i + d = (L s).length → acc.length + 2 * d ≤ 4398046511104 →
    Ev (fun k => spec_PutHex.l0 k s (I acc) (i : Int)) (S (acc ++ putHex ((L s).drop i))) := by
  induction d with
  | zero =>
    intro i acc hi ha
    have hz : ¬ ((i : Int) < (s.size : Int)) := by rw [size_L]; omega
    refine Ev.step (f := fun k => some (strOfNums (I acc))) (fun k => by rw [spec_PutHex.l0, if_neg hz]) ?_
    rw [List.drop_of_length_le (by omega), putHex_nil, List.append_nil, str_I]
    exact Ev.now _
  | succ d ih =>
    intro i acc hi ha
    have hl : i < (L s).length := by omega
    have hz : ((i : Int) < (s.size : Int)) := by rw [size_L]; omega
    have hb := byte_lt (at_ (L s) i)
    have h1 : Int.tdiv ((at_ (L s) i).toNat : Int) 16 % 256 = (((at_ (L s) i).toNat / 16 : Nat) : Int) := by
      rw [Int.tdiv_eq_ediv_of_nonneg (by omega)]; omega
    have h2 : Int.tmod ((at_ (L s) i).toNat : Int) 16 = (((at_ (L s) i).toNat % 16 : Nat) : Int) := by
      rw [Int.tmod_eq_emod_of_nonneg (by omega)]; omega
    refine Ev.step (f := fun k => spec_PutHex.l0 k s (I (acc ++ hexOf (at_ (L s) i))) ((i + 1 : Nat) : Int)) (fun k => ?_) ?_
    · rw [spec_PutHex.l0, if_pos hz, if_pos (by omega), bt_nat, h1, h2, if_pos (by omega), if_pos (by omega), if_pos (by omega), if_pos (by omega), Option.bind_some]
      rw [show (⟨#[48, 49, 50, 51, 52, 53, 54, 55, 56, 57, 97, 98, 99, 100, 101, 102]⟩ : ByteArray) = S hexd from rfl, I_hexOf _ _ _ rfl rfl, if_pos (by simp [hexOf]; omega), ← I_append, w64 (by omega) (by rw [size_L] at hs; omega)]
      rfl
    · refine ev_use (ih (i + 1) _ (by omega) (by simp [hexOf]; omega)) ?_
      rw [drop_at _ _ hl, putHex_cons, List.append_assoc]
theorem spec_PutHex_ev (s : ByteArray) (hs : s.size ≤ 1099511627776) : Ev (fun k => spec_PutHex.f k s) (S (putHex (L s))) := by
  refine ev_use (Ev.congr (fun k => rfl) (spec_PutHex_loop s hs (L s).length 0 [] (by omega) (by rw [← size_L]; simp; omega))) ?_
  simp
theorem impl_PutHex_loop (s : ByteArray) (hs : s.size ≤ 1099511627776) (d : Nat) : ∀ (i : Nat) (acc : B), i + d = (L s).length → acc.length + 2 * d ≤ 4398046511104 →
    Ev (fun k => impl_PutHex.l0 k s (I acc) (s.size : Int) (i : Int)) (S (acc ++ putHex ((L s).drop i))) := by
  induction d with
  | zero =>
    intro i acc hi ha
    have hz : ¬ ((i : Int) < (s.size : Int)) := by rw [size_L]; omega
    refine Ev.step (f := fun k => some (strOfNums (I acc))) (fun k => by rw [impl_PutHex.l0, if_neg hz]) ?_
    rw [List.drop_of_length_le (by omega), putHex_nil, List.append_nil, str_I]
    exact Ev.now _
  | succ d ih =>
    intro i acc hi ha
    have hl : i < (L s).length := by omega
    have hz : ((i : Int) < (s.size : Int)) := by rw [size_L]; omega
    have hb := byte_lt (at_ (L s) i)
    have h1 : ((at_ (L s) i).toNat : Int) / 16 = (((at_ (L s) i).toNat / 16 : Nat) : Int) := by omega
    have h2 : Go.bits .and .u8 ((at_ (L s) i).toNat : Int) 15 = (((at_ (L s) i).toNat % 16 : Nat) : Int) := by
      have e := Go.u8_and15 (x := ((at_ (L s) i).toNat : Int)) (by omega) (by omega)
      exact e.trans (by omega)
    refine Ev.step (f := fun k => impl_PutHex.l0 k s (I (acc ++ hexOf (at_ (L s) i))) (s.size : Int) ((i + 1 : Nat) : Int)) (fun k => ?_) ?_
    · rw [impl_PutHex.l0, if_pos hz, if_pos (by omega), if_pos hz, bt_nat, h1, h2, if_pos (by omega), if_pos (by omega), if_pos (by omega), if_pos (by omega), Option.bind_some]
      rw [show (⟨#[48, 49, 50, 51, 52, 53, 54, 55, 56, 57, 97, 98, 99, 100, 101, 102]⟩ : ByteArray) = S hexd from rfl, I_hexOf _ _ _ rfl rfl, if_pos (by simp [hexOf]; omega), ← I_append, w64 (by omega) (by rw [size_L] at hs; omega)]
      rfl
    · refine ev_use (ih (i + 1) _ (by omega) (by simp [hexOf]; omega)) ?_
      rw [drop_at _ _ hl, putHex_cons, List.append_assoc]
theorem impl_PutHex_ev (s : ByteArray) (hs : s.size ≤ 1099511627776) : Ev (fun k => impl_PutHex.f k s) (S (putHex (L s))) := by
  refine ev_use (Ev.congr (fun k => rfl) (impl_PutHex_loop s hs (L s).length 0 [] (by omega) (by rw [← size_L]; simp; omega))) ?_
  simp
def quote1 (c : UInt8) : B := if c = 34 ∨ c = 92 then [92, c] else if c = 10 then [92, 110] else if c.toNat < 32 ∨ 127 ≤ c.toNat then [92, 120] ++ hexOf c else [c]
def quoteIn (l : B) : B := l.flatMap quote1
def quote (l : B) : B := 34 :: (quoteIn l ++ [34])
theorem quote1_length (c : UInt8) : (quote1 c).length ≤ 4 := by
  unfold quote1; split
  · simp
  · split
    · simp
    · split <;> simp [hexOf]
theorem quoteIn_length (l : B) : (quoteIn l).length ≤ 4 * l.length := by
  induction l with
  | nil => simp [quoteIn]
  | cons c l ih => have := quote1_length c; simp only [quoteIn, List.flatMap_cons, List.length_append, List.length_cons] at ih ⊢; omega
theorem one_extract (s : ByteArray) (i : Nat) (h : i < (L s).length) : s.extract i (i + 1) = S [at_ (L s) i] := L_inj (by
  rw [L_extract, L_S, drop_at _ _ h, Nat.add_sub_cancel_left]; rfl)
theorem putHex_one (c : UInt8) : putHex [c] = hexOf c := by simp [putHex]
theorem impl_Quote_ev (s : ByteArray) (hs : s.size ≤ 1099511627776) : Ev (fun k => impl_Quote.f k s) (S (quote (L s))) := by
  have hsz := size_L s
  refine ev_use (loop_up (fun k i (acc : B) => impl_Quote.l0 k s (S acc) (s.size : Int) i) (L s).length (fun i acc => acc.length ≤ 1 + 4 * i) (fun i acc => S (acc ++ quoteIn ((L s).drop i) ++ [34])) ?_ ?_ 0 [34] (by omega) (by simp)) (by simp [quote])
  · intro acc ha
    refine Ev.step (f := fun k => some (S (acc ++ [34]))) (fun k => ?_) (ev_use (Ev.now _) ?_)
    · rw [impl_Quote.l0, if_neg (by omega), if_pos (by rw [size_S]; omega), show (⟨#[34]⟩ : ByteArray) = S [34] from rfl, S_append]
    · rw [List.drop_length]; simp [quoteIn]
  · intro i acc hi ha ih
    have hz : (i : Int) < (s.size : Int) := by omega
    have hb := byte_lt (at_ (L s) i)
    have hex := one_extract s i hi
    have q1 := quote1_length (at_ (L s) i)
    refine ev_use (b := S (acc ++ quoteIn ((L s).drop i) ++ [34])) (?_ : Ev _ (S ((acc ++ quote1 (at_ (L s) i)) ++ quoteIn ((L s).drop (i + 1)) ++ [34]))) (by rw [drop_at _ _ hi]; simp [quoteIn])
    have hi1 : wrap64 ((i : Int) + 1) = ((i + 1 : Nat) : Int) := inc i (by omega)
    have ih' := ih (acc ++ quote1 (at_ (L s) i)) (by simp; omega)
    have hj : Ev (fun k => impl_Quote.j1 k s (S acc) (i : Int) (bt s (i : Int)) (s.size : Int) (i : Int) (decide (at_ (L s) i = 34 ∨ at_ (L s) i = 92))) (S ((acc ++ quote1 (at_ (L s) i)) ++ quoteIn ((L s).drop (i + 1)) ++ [34])) := by
      refine Ev.step (f := fun k => _) (fun k => by rw [impl_Quote.j1, hi1, Int.toNat_natCast, Int.toNat_natCast, hex, bt_nat]) ?_
      by_cases h1 : at_ (L s) i = 34 ∨ at_ (L s) i = 92
      · refine ev_pos (by simpa using h1) (ev_pos (by omega) (ev_pos (by omega) (ev_pos (by omega) (ev_pos (by rw [size_S]; simp) (ev_pos ?_ ?_)))))
        · rw [show (⟨#[92]⟩ : ByteArray) = S [92] from rfl, S_append, size_S, size_S]; simp; omega
        · rw [show (⟨#[92]⟩ : ByteArray) = S [92] from rfl, S_append, S_append]
          have hq := show quote1 (at_ (L s) i) = _ by rw [quote1, if_pos h1]
          rw [hq] at ih' ⊢
          exact ih'
      · refine ev_neg (by simpa using h1) ?_
        by_cases h2 : at_ (L s) i = 10
        · refine ev_pos ((byte_is _ 10 10 (by decide)).2 h2) (ev_pos (by rw [size_S]; omega) ?_)
          have hq := show quote1 (at_ (L s) i) = _ by rw [quote1, if_neg h1, if_pos h2]
          rw [hq] at ih' ⊢
          rw [show (⟨#[92, 110]⟩ : ByteArray) = S [92, 110] from rfl, S_append]
          exact ih'
        · refine ev_neg (fun e => h2 ((byte_is _ 10 10 (by decide)).1 e)) ?_
          have hp := impl_PutHex_ev (S [at_ (L s) i]) (by rw [size_S]; simp)
          rw [L_S, putHex_one] at hp
          by_cases h3 : (at_ (L s) i).toNat < 32
          · refine ev_pos (by omega) (ev_pos (by omega) (ev_pos (by omega) (ev_pos (by omega) ?_)))
            refine Ev.bind hp ?_
            refine ev_pos (by rw [size_S]; simp [hexOf]) (ev_pos ?_ ?_)
            · rw [show (⟨#[92, 120]⟩ : ByteArray) = S [92, 120] from rfl, S_append, size_S, size_S]; simp [hexOf]; omega
            · rw [show (⟨#[92, 120]⟩ : ByteArray) = S [92, 120] from rfl, S_append, S_append]
              have hq := show quote1 (at_ (L s) i) = _ by rw [quote1, if_neg h1, if_neg h2, if_pos (.inl h3)]
              rw [hq] at ih' ⊢
              exact ih'
          · refine ev_neg (by omega) ?_
            by_cases h4 : 127 ≤ (at_ (L s) i).toNat
            · refine ev_pos (by omega) (ev_pos (by omega) (ev_pos (by omega) (ev_pos (by omega) ?_)))
              refine Ev.bind hp ?_
              refine ev_pos (by rw [size_S]; simp [hexOf]) (ev_pos ?_ ?_)
              · rw [show (⟨#[92, 120]⟩ : ByteArray) = S [92, 120] from rfl, S_append, size_S, size_S]; simp [hexOf]; omega
              · rw [show (⟨#[92, 120]⟩ : ByteArray) = S [92, 120] from rfl, S_append, S_append]
                have hq := show quote1 (at_ (L s) i) = _ by rw [quote1, if_neg h1, if_neg h2, if_pos (.inr h4)]
                rw [hq] at ih' ⊢
                exact ih'
            · refine ev_neg (by omega) (ev_pos (by omega) (ev_pos (by omega) (ev_pos (by omega) (ev_pos (by rw [size_S, size_S]; simp; omega) ?_))))
              rw [S_append]
              have hq := show quote1 (at_ (L s) i) = _ by rw [quote1, if_neg h1, if_neg h2, if_neg (by omega)]
              rw [hq] at ih' ⊢
              exact ih'
    refine Ev.step (f := fun k => impl_Quote.j1 k s (S acc) (i : Int) (bt s (i : Int)) (s.size : Int) (i : Int) (decide (at_ (L s) i = 34 ∨ at_ (L s) i = 92))) (fun k => ?_) hj
    rw [impl_Quote.l0, if_pos hz, if_pos (by omega), if_pos hz]
    by_cases h1 : at_ (L s) i = 34
    · rw [if_pos (by rw [bt_nat]; exact (byte_is _ 34 34 (by decide)).2 h1)]; simp [h1]
    · rw [if_neg (by rw [bt_nat]; exact fun e => h1 ((byte_is _ 34 34 (by decide)).1 e))]
      congr 1
      rw [bt_nat, Bool.eq_iff_iff]
      simp [h1, (byte_is (at_ (L s) i) 92 92 (by decide))]
theorem spec_Quote_ev (s : ByteArray) (hs : s.size ≤ 1099511627776) : Ev (fun k => spec_Quote.f k s) (S (quote (L s))) := by
  have hsz := size_L s
  refine ev_use (loop_up (fun k i (acc : B) => spec_Quote.l0 k s (I acc) i) (L s).length (fun i acc => acc.length ≤ 1 + 4 * i) (fun i acc => S (acc ++ quoteIn ((L s).drop i) ++ [34])) ?_ ?_ 0 [34] (by omega) (by simp)) (by simp [quote])
  · intro acc ha
    refine Ev.step (f := fun k => some (S (acc ++ [34]))) (fun k => ?_) (ev_use (Ev.now _) ?_)
    · rw [spec_Quote.l0, if_neg (by omega), if_pos (by rw [I_length]; omega), show ([34] : List Int) = I [34] from rfl, ← I_append, str_I]
    · rw [List.drop_length]; simp [quoteIn]
  · intro i acc hi ha ih
    have hz : (i : Int) < (s.size : Int) := by omega
    have hb := byte_lt (at_ (L s) i)
    have hex := one_extract s i hi
    have q1 := quote1_length (at_ (L s) i)
    refine ev_use (b := S (acc ++ quoteIn ((L s).drop i) ++ [34])) (?_ : Ev _ (S ((acc ++ quote1 (at_ (L s) i)) ++ quoteIn ((L s).drop (i + 1)) ++ [34]))) (by rw [drop_at _ _ hi]; simp [quoteIn])
    have hi1 : wrap64 ((i : Int) + 1) = ((i + 1 : Nat) : Int) := inc i (by omega)
    have ih' := ih (acc ++ quote1 (at_ (L s) i)) (by simp; omega)
    have hp := spec_PutHex_ev (S [at_ (L s) i]) (by rw [size_S]; simp)
    rw [L_S, putHex_one] at hp
    have e12 : ([92, 120] : List Int) = I [92, 120] := rfl
    have hj : Ev (fun k => spec_Quote.j1 k s (I acc) (i : Int) (decide (at_ (L s) i = 34 ∨ at_ (L s) i = 92))) (S ((acc ++ quote1 (at_ (L s) i)) ++ quoteIn ((L s).drop (i + 1)) ++ [34])) := by
      refine Ev.step (f := fun k => _) (fun k => by rw [spec_Quote.j1, hi1, Int.toNat_natCast, Int.toNat_natCast, hex, bt_nat]) ?_
      by_cases h1 : at_ (L s) i = 34 ∨ at_ (L s) i = 92
      · refine ev_pos (by simpa using h1) (ev_pos (by omega) (ev_pos hz (ev_some (ev_pos (by simp; omega) ?_))))
        have hq := show quote1 (at_ (L s) i) = _ by rw [quote1, if_pos h1]
        rw [hq] at ih' ⊢
        rw [show [92, ((at_ (L s) i).toNat : Int)] = I [92, at_ (L s) i] from rfl, ← I_append]
        exact ih'
      · refine ev_neg (by simpa using h1) (ev_pos (by omega) (ev_pos hz ?_))
        by_cases h2 : at_ (L s) i = 10
        · refine ev_pos ((byte_is _ 10 10 (by decide)).2 h2) (ev_some (ev_pos (by simp; omega) ?_))
          have hq := show quote1 (at_ (L s) i) = _ by rw [quote1, if_neg h1, if_pos h2]
          rw [hq] at ih' ⊢
          rw [show ([92, 110] : List Int) = I [92, 110] from rfl, ← I_append]
          exact ih'
        · refine ev_neg (fun e => h2 ((byte_is _ 10 10 (by decide)).1 e)) ?_
          by_cases h3 : (at_ (L s) i).toNat < 32
          · refine ev_pos (by omega) (ev_some (ev_pos (by simp; omega) (ev_some (ev_pos (by omega) (ev_pos (by omega) ?_)))))
            refine Ev.bind hp ?_
            refine ev_pos (by rw [size_S]; simp [hexOf]; omega) ?_
            rw [e12, ← I_append, bytesOf_I, L_S, ← I_append]
            have hq := show quote1 (at_ (L s) i) = _ by rw [quote1, if_neg h1, if_neg h2, if_pos (.inl h3)]
            rw [hq, ← List.append_assoc] at ih' ⊢
            exact ih'
          · refine ev_neg (by omega) ?_
            by_cases h4 : 127 ≤ (at_ (L s) i).toNat
            · refine ev_pos (by omega) (ev_some (ev_pos (by simp; omega) (ev_some (ev_pos (by omega) (ev_pos (by omega) ?_)))))
              refine Ev.bind hp ?_
              refine ev_pos (by rw [size_S]; simp [hexOf]; omega) ?_
              rw [e12, ← I_append, bytesOf_I, L_S, ← I_append]
              have hq := show quote1 (at_ (L s) i) = _ by rw [quote1, if_neg h1, if_neg h2, if_pos (.inr h4)]
              rw [hq, ← List.append_assoc] at ih' ⊢
              exact ih'
            · refine ev_neg (by omega) (ev_pos (by simp; omega) ?_)
              have hq := show quote1 (at_ (L s) i) = _ by rw [quote1, if_neg h1, if_neg h2, if_neg (by omega)]
              rw [hq] at ih' ⊢
              rw [show [((at_ (L s) i).toNat : Int)] = I [at_ (L s) i] from rfl, ← I_append]
              exact ih'
    refine Ev.step (f := fun k => spec_Quote.j1 k s (I acc) (i : Int) (decide (at_ (L s) i = 34 ∨ at_ (L s) i = 92))) (fun k => ?_) hj
    rw [spec_Quote.l0, if_pos hz, if_pos (by omega)]
    by_cases h1 : at_ (L s) i = 34
    · rw [if_pos (by rw [bt_nat]; exact (byte_is _ 34 34 (by decide)).2 h1)]; simp [h1]
    · rw [if_neg (by rw [bt_nat]; exact fun e => h1 ((byte_is _ 34 34 (by decide)).1 e))]
      congr 1
      rw [bt_nat, Bool.eq_iff_iff]
      simp [h1, (byte_is (at_ (L s) i) 92 92 (by decide))]
def idx (l : B) (c : UInt8) : Int := Lib.indexByte l c
theorem idx_nil (c : UInt8) : idx [] c = -1 := rfl
theorem idx_cons (b : UInt8) (l : B) (c : UInt8) : idx (b :: l) c = if b = c then 0 else if idx l c = -1 then -1 else idx l c + 1 := by
  show Lib.indexByte (b :: l) c = _
  rw [Lib.indexByte]
  by_cases h : b = c
  · simp [h]
  · simp [h]; rfl
theorem idx_ge (l : B) (c : UInt8) : -1 ≤ idx l c := Lib.indexByte_ge l c
theorem idx_lt (l : B) (c : UInt8) : idx l c < l.length := by
  induction l with
  | nil => rw [idx_nil]; simp
  | cons b l ih =>
    rw [idx_cons, List.length_cons]
    split
    · omega
    · split <;> omega
def idxFrom (l : B) (c : UInt8) (i : Nat) : Int := if idx (l.drop i) c = -1 then -1 else (i : Int) + idx (l.drop i) c
theorem idxFrom_zero (l : B) (c : UInt8) : idxFrom l c 0 = idx l c := by
  unfold idxFrom; rw [List.drop_zero]; split
  · rename_i h; rw [h]
  · simp
theorem spec_l01At_ev (s : ByteArray) (c : UInt8) (hs : s.size ≤ 1099511627776) : Ev (fun k => spec_l01At.f k s (c.toNat : Int)) (idx (L s) c) := by
  rw [← idxFrom_zero]
  refine loop_up (fun k i (_ : Unit) => spec_l01At.l0 k s (c.toNat : Int) i) (L s).length (fun _ _ => True) (fun i _ => idxFrom (L s) c i) ?_ ?_ 0 () (by omega) trivial
  · intro st _
    refine Ev.step (f := fun k => some (-1)) (fun k => by rw [spec_l01At.l0, if_neg (by rw [size_L]; omega)]) ?_
    refine ev_use (Ev.now _) ?_
    unfold idxFrom; rw [List.drop_length, idx_nil, if_pos rfl]
  · intro i st hi _ ih
    have hz : (i : Int) < (s.size : Int) := by rw [size_L]; omega
    by_cases h : at_ (L s) i = c
    · refine Ev.step (f := fun k => some (i : Int)) (fun k => ?_) (ev_use (Ev.now _) ?_)
      · rw [spec_l01At.l0, if_pos hz, if_pos (by omega), bt_nat, h, if_pos rfl]
      · unfold idxFrom; rw [drop_at _ _ hi, idx_cons, if_pos h]; simp
    · refine Ev.step (f := fun k => spec_l01At.l0 k s (c.toNat : Int) ((i + 1 : Nat) : Int)) (fun k => ?_) (ev_use (ih () trivial) ?_)
      · rw [spec_l01At.l0, if_pos hz, if_pos (by omega), bt_nat, if_neg (fun e => h (byte_inj e)), inc i (by rw [← size_L] at hi; omega)]
      · unfold idxFrom; rw [drop_at _ _ hi, idx_cons, if_neg h]
        have := idx_ge ((L s).drop (i + 1)) c
        split
        · rfl
        · rw [if_neg (by omega)]; omega
end Go.Proofs.YtbfbomcfmgdpkaaGreatDoor.U

end
section
namespace Go.Proofs.YtbfbomcfmgdpkaaGreatDoor.U
open Go Go.RowKit Go.Proofs.YtbfbomcfmgdpkaaGreatDoorW.PrintWords Go.Proofs.YtbfbomcfmgdpkaaGreatDoor.G
theorem strings_IndexByte_eq (s : ByteArray) (c : UInt8) : strings_IndexByte.f s (c.toNat : Int) = some (idx (L s) c) := by
  unfold strings_IndexByte.f idx L
  congr 2
  simp
end Go.Proofs.YtbfbomcfmgdpkaaGreatDoor.U

end
section
namespace Go.Proofs.YtbfbomcfmgdpkaaGreatDoor.U
open Go Go.RowKit Go.Proofs.YtbfbomcfmgdpkaaGreatDoorW.PrintWords Go.Proofs.YtbfbomcfmgdpkaaGreatDoor.G
set_option linter.unusedVariables false
set_option linter.unusedSimpArgs false
def pairs (dg : B) : B → B → B × Bool
  | acc, a :: b :: r => if idx dg a < 0 ∨ idx dg b < 0 then ([], false) else pairs dg (acc ++ [UInt8.ofNat (16 * (idx dg a).toNat + (idx dg b).toNat)]) r
  | acc, [] => (acc, true)
  | acc, [_] => (acc, false)
def getHex (l : B) : B × Bool := if (pairs hexd [] l).2 then pairs hexd [] l else ([], false)
theorem pair_byte {a b : Int} (ha : 0 ≤ a) (ha2 : a < 16) (hb : 0 ≤ b) (hb2 : b < 16) : [(wrap64 (wrap64 (16 * a) + b)) % 256] = I [UInt8.ofNat (16 * a.toNat + b.toNat)] := by
  rw [w64 (n := 16 * a) (by omega) (by omega), w64 (by omega) (by omega)]
  simp [I]
  omega
theorem spec_l01Pairs_ev (s dg : ByteArray) (hs : s.size ≤ 1099511627776) (hd : dg.size = 16) : Ev (fun k => spec_l01Pairs.f k s dg) (S (pairs (L dg) [] (L s)).1, (pairs (L dg) [] (L s)).2) := by
  have key : ∀ (d : Nat) (i : Nat) (acc : B), i + d = (L s).length → i % 2 = 0 → acc.length + d ≤ 1099511627776 → Ev (fun k => spec_l01Pairs.l0 k s dg (I acc) (i : Int)) (S (pairs (L dg) acc ((L s).drop i)).1, (pairs (L dg) acc ((L s).drop i)).2) := by
    intro d
    induction d using Nat.strongRecOn with
    | _ d ih =>
    intro i acc hi hev ha
    have hsz := size_L s
    by_cases hlt : i + 1 < (L s).length
    · have hz : ((i + 1 : Nat) : Int) < (s.size : Int) := by omega
      have hz0 : (i : Int) < (s.size : Int) := by omega
      have hw : wrap64 ((i : Int) + 1) = ((i + 1 : Nat) : Int) := inc i (by omega)
      have ea := spec_l01At_ev dg (at_ (L s) i) (by omega)
      have eb := spec_l01At_ev dg (at_ (L s) (i + 1)) (by omega)
      have la := idx_lt (L dg) (at_ (L s) i)
      have lb := idx_lt (L dg) (at_ (L s) (i + 1))
      rw [← size_L] at la lb
      rw [drop_at _ _ (by omega : i < (L s).length), drop_at _ _ hlt]
      refine Ev.step (f := fun k => _) (fun k => by rw [spec_l01Pairs.l0, hw, if_pos hz, if_pos (by omega), if_pos hz0, bt_nat, bt_nat]) ?_
      refine Ev.bind ea ?_
      refine ev_pos (by omega) ?_
      refine Ev.bind eb ?_
      rw [pairs]
      by_cases h1 : idx (L dg) (at_ (L s) i) < 0
      · refine ev_pos h1 (ev_use (Ev.now _) ?_)
        rw [if_pos (.inl h1)]; rfl
      · refine ev_neg h1 ?_
        by_cases h2 : idx (L dg) (at_ (L s) (i + 1)) < 0
        · refine ev_pos h2 (ev_use (Ev.now _) ?_)
          rw [if_pos (.inr h2)]; rfl
        · refine ev_neg h2 (ev_pos (by simp; omega) ?_)
          rw [if_neg (by omega), pair_byte (by omega) (by omega) (by omega) (by omega), ← I_append]
          have e2 : wrap64 ((i : Int) + 2) = ((i + 2 : Nat) : Int) := by rw [w64 (by omega) (by omega)]; omega
          rw [e2]
          exact ih (d - 2) (by omega) (i + 2) _ (by omega) (by omega) (by simp; omega)
    · have hw : wrap64 ((i : Int) + 1) = ((i + 1 : Nat) : Int) := inc i (by omega)
      refine Ev.step (f := fun k => some (strOfNums (I acc), ((s.size : Int) % 2 == 0))) (fun k => by rw [spec_l01Pairs.l0, hw, if_neg (by omega)]) (ev_use (Ev.now _) ?_)
      rw [str_I]
      by_cases h0 : i = (L s).length
      · rw [h0, List.drop_length, pairs]
        have e : ((s.size : Int) % 2 == 0) = true := by rw [beq_iff_eq]; omega
        rw [e]
      · have h1 : i + 1 = (L s).length := by omega
        rw [drop_at _ _ (by omega : i < (L s).length), h1, List.drop_length, pairs]
        have e : ((s.size : Int) % 2 == 0) = false := by rw [beq_eq_false_iff_ne]; omega
        rw [e]
  exact key (L s).length 0 [] (by omega) rfl (by rw [← size_L]; simpa using hs)
theorem hexd_S : (⟨#[48, 49, 50, 51, 52, 53, 54, 55, 56, 57, 97, 98, 99, 100, 101, 102]⟩ : ByteArray) = S hexd := rfl
theorem spec_GetHex_ev (s : ByteArray) (hs : s.size ≤ 1099511627776) : Ev (fun k => spec_GetHex.f k s) (S (getHex (L s)).1, (getHex (L s)).2) := by
  have e := spec_l01Pairs_ev s (S hexd) hs rfl
  rw [L_S] at e
  unfold spec_GetHex.f getHex
  rw [hexd_S]
  refine Ev.bind e ?_
  by_cases h : (pairs hexd [] (L s)).2 = true
  · refine ev_pos h (ev_use (Ev.now _) ?_)
    rw [if_pos h, h]
  · refine ev_neg h (ev_use (Ev.now _) ?_)
    rw [if_neg h]; rfl
theorem impl_GetHex_ev (s : ByteArray) (hs : s.size ≤ 1099511627776) : Ev (fun k => impl_GetHex.f k s) (S (getHex (L s)).1, (getHex (L s)).2) := by
  have key : ∀ (d : Nat) (i : Nat) (acc : B), i + d = (L s).length → i % 2 = 0 → acc.length + d ≤ 1099511627776 → Ev (fun k => impl_GetHex.l0 k s (I acc) (i : Int)) (if (pairs hexd acc ((L s).drop i)).2 then (S (pairs hexd acc ((L s).drop i)).1, true) else (S [], false)) := by
    intro d
    induction d using Nat.strongRecOn with
    | _ d ih =>
    intro i acc hi hev ha
    have hsz := size_L s
    by_cases hlt : i + 1 < (L s).length
    · have hz : ((i + 1 : Nat) : Int) < (s.size : Int) := by omega
      have hz0 : (i : Int) < (s.size : Int) := by omega
      have hw : wrap64 ((i : Int) + 1) = ((i + 1 : Nat) : Int) := inc i (by omega)
      have la := idx_lt hexd (at_ (L s) i)
      have lb := idx_lt hexd (at_ (L s) (i + 1))
      have h16 : (hexd.length : Int) = 16 := rfl
      rw [drop_at _ _ (by omega : i < (L s).length), drop_at _ _ hlt]
      refine Ev.step (f := fun k => _) (fun k => by rw [impl_GetHex.l0, hw, if_pos hz, if_pos (by omega), if_pos hz0, hexd_S, bt_nat, bt_nat, strings_IndexByte_eq, strings_IndexByte_eq, Option.bind_some, if_pos (by omega), Option.bind_some, L_S]) ?_
      by_cases h1 : idx hexd (at_ (L s) i) < 0
      · refine ev_pos h1 (ev_use (Ev.now _) ?_)
        rw [show pairs hexd acc (at_ (L s) i :: at_ (L s) (i + 1) :: (L s).drop (i + 1 + 1)) = ([], false) by rw [pairs, if_pos (Or.inl h1)]]; rfl
      · refine ev_neg h1 ?_
        by_cases h2 : idx hexd (at_ (L s) (i + 1)) < 0
        · refine ev_pos h2 (ev_use (Ev.now _) ?_)
          rw [show pairs hexd acc (at_ (L s) i :: at_ (L s) (i + 1) :: (L s).drop (i + 1 + 1)) = ([], false) by rw [pairs, if_pos (Or.inr h2)]]; rfl
        · refine ev_neg h2 (ev_pos (by simp; omega) ?_)
          rw [show pairs hexd acc (at_ (L s) i :: at_ (L s) (i + 1) :: (L s).drop (i + 1 + 1)) = pairs hexd (acc ++ [UInt8.ofNat (16 * (idx hexd (at_ (L s) i)).toNat + (idx hexd (at_ (L s) (i + 1))).toNat)]) ((L s).drop (i + 1 + 1)) by rw [pairs, if_neg (by omega)], pair_byte (by omega) (by omega) (by omega) (by omega), ← I_append]
          have e2 : wrap64 ((i : Int) + 2) = ((i + 2 : Nat) : Int) := by rw [w64 (by omega) (by omega)]; omega
          rw [e2]
          exact ih (d - 2) (by omega) (i + 2) _ (by omega) (by omega) (by simp; omega)
    · have hw : wrap64 ((i : Int) + 1) = ((i + 1 : Nat) : Int) := inc i (by omega)
      by_cases h0 : i = (L s).length
      · refine Ev.step (f := fun k => some (strOfNums (I acc), true)) (fun k => by rw [impl_GetHex.l0, hw, if_neg (by omega), if_neg (by omega)]) (ev_use (Ev.now _) ?_)
        rw [h0, List.drop_length, pairs, str_I]; rfl
      · have h1 : i + 1 = (L s).length := by omega
        refine Ev.step (f := fun k => some (S [], false)) (fun k => by rw [impl_GetHex.l0, hw, if_neg (by omega), if_pos (by omega)]; rfl) (ev_use (Ev.now _) ?_)
        rw [drop_at _ _ (by omega : i < (L s).length), h1, List.drop_length, pairs]; rfl
  refine ev_use (key (L s).length 0 [] (by omega) rfl (by rw [← size_L]; simpa using hs)) ?_
  unfold getHex
  rw [List.drop_zero]
  by_cases h : (pairs hexd [] (L s)).2 = true
  · rw [if_pos h, if_pos h, h]
  · rw [if_neg h, if_neg h]
end Go.Proofs.YtbfbomcfmgdpkaaGreatDoor.U

end
section
namespace Go.Proofs.YtbfbomcfmgdpkaaGreatDoor.U
open Go Go.RowKit Go.Proofs.YtbfbomcfmgdpkaaGreatDoorW.PrintWords Go.Proofs.YtbfbomcfmgdpkaaGreatDoor.G
theorem spec_l01In_eq (a b c : Int) : spec_l01In.f a b c = some (decide (b ≤ a ∧ a ≤ c)) := by
  unfold spec_l01In.f
  by_cases h : a ≥ b
  · rw [if_pos h]; by_cases h2 : a ≤ c <;> simp [h2] <;> omega
  · rw [if_neg h]; simp; omega
theorem impl_within_eq (a b c : Int) : impl_within.f a b c = some (decide (b ≤ a ∧ a ≤ c)) := by
  unfold impl_within.f
  by_cases h : b ≤ a
  · rw [if_pos h]; by_cases h2 : a ≤ c <;> simp [h2, h]
  · rw [if_neg h]; simp [h]
end Go.Proofs.YtbfbomcfmgdpkaaGreatDoor.U

end
section
namespace Go.Proofs.YtbfbomcfmgdpkaaGreatDoor.U
open Go Go.RowKit Go.Proofs.YtbfbomcfmgdpkaaGreatDoorW.PrintWords Go.Proofs.YtbfbomcfmgdpkaaGreatDoor.G
set_option linter.unusedVariables false
set_option linter.unusedSimpArgs false
def more (n : Nat) : Option (B × Nat) → Option (B × Nat)
  | none => none
  | some (t, m) => some (t, m + n)
def scan (strict : Bool) (acc : B) (r : B) : Option (B × Nat) :=
  match r with
  | [] => none
  | c :: r1 =>
    if c = 34 then some (acc, 1)
    else if c = 92 then
      match r1 with
      | [] => none
      | d :: r2 =>
        if d = 110 then more 2 (scan strict (acc ++ [10]) r2)
        else if d = 120 then
          match r2 with
          | a :: b :: r4 => if (getHex [a, b]).2 = true then more 4 (scan strict (acc ++ (getHex [a, b]).1) r4) else none
          | _ => none
        else if strict = true ∧ d ≠ 34 ∧ d ≠ 92 then none
        else more 2 (scan strict (acc ++ [d]) r2)
    else more 1 (scan strict (acc ++ [c]) r1)
termination_by r.length
decreasing_by all_goals simp_wf; try omega
theorem more_some (n : Nat) (t : B) (m : Nat) : more n (some (t, m)) = some (t, m + n) := rfl
theorem more_eq {n : Nat} {o : Option (B × Nat)} {t : B} {m : Nat} (h : more n o = some (t, m)) : ∃ m', o = some (t, m') ∧ m = m' + n := by
  cases o with
  | none => cases h
  | some x => obtain ⟨t', m'⟩ := x; rw [more_some] at h; cases h; exact ⟨m', rfl, rfl⟩
theorem scan_nil (st : Bool) (acc : B) : scan st acc [] = none := by rw [scan.eq_def]
theorem scan_end (st : Bool) (acc r : B) : scan st acc (34 :: r) = some (acc, 1) := by rw [scan.eq_def]; simp
theorem scan_one (st : Bool) (acc r : B) (c : UInt8) (h1 : c ≠ 34) (h2 : c ≠ 92) : scan st acc (c :: r) = more 1 (scan st (acc ++ [c]) r) := by rw [scan.eq_def]; simp [h1, h2]
theorem scan_bs (st : Bool) (acc : B) : scan st acc [92] = none := by rw [scan.eq_def]; simp
theorem scan_n (st : Bool) (acc r : B) : scan st acc (92 :: 110 :: r) = more 2 (scan st (acc ++ [10]) r) := by rw [scan.eq_def]; simp
theorem scan_x (st : Bool) (acc r : B) (a b : UInt8) : scan st acc (92 :: 120 :: a :: b :: r) = if (getHex [a, b]).2 = true then more 4 (scan st (acc ++ (getHex [a, b]).1) r) else none := by
  rw [scan.eq_def]; simp
theorem scan_x0 (st : Bool) (acc : B) : scan st acc [92, 120] = none := by rw [scan.eq_def]; simp
theorem scan_x1 (st : Bool) (acc : B) (a : UInt8) : scan st acc [92, 120, a] = none := by rw [scan.eq_def]; simp
theorem scan_d (st : Bool) (acc r : B) (d : UInt8) (h1 : d ≠ 110) (h2 : d ≠ 120) : scan st acc (92 :: d :: r) = if st = true ∧ d ≠ 34 ∧ d ≠ 92 then none else more 2 (scan st (acc ++ [d]) r) := by
  rw [scan.eq_def]; simp [h1, h2]
theorem getHex_two (a b : UInt8) (h : (getHex [a, b]).2 = true) : ∃ d, (getHex [a, b]).1 = [d] := by
  unfold getHex at h ⊢
  by_cases hp : (pairs hexd [] [a, b]).2 = true
  · rw [if_pos hp] at h ⊢
    rw [pairs] at hp ⊢
    by_cases hc : idx hexd a < 0 ∨ idx hexd b < 0
    · rw [if_pos hc] at hp; cases hp
    · rw [if_neg hc]; exact ⟨_, rfl⟩
  · rw [if_neg hp] at h; cases h
theorem scan_loose (n : Nat) : ∀ (acc r : B) (x : B × Nat), r.length ≤ n → scan true acc r = some x → scan false acc r = some x := by
  induction n with
  | zero => intro acc r x hr h; obtain rfl : r = [] := List.eq_nil_of_length_eq_zero (by omega); rw [scan_nil] at h; cases h
  | succ n ih =>
    intro acc r x hr h
    have step : ∀ (k : Nat) (acc' r' : B), r'.length ≤ n → more k (scan true acc' r') = some x → more k (scan false acc' r') = some x := by
      intro k acc' r' hr' h'
      obtain ⟨m', e, hm⟩ := more_eq (t := x.1) (m := x.2) h'
      rw [ih acc' r' _ hr' e, more_some, ← hm]
    cases r with
    | nil => rw [scan_nil] at h; cases h
    | cons c r1 =>
      simp only [List.length_cons] at hr
      by_cases h1 : c = 34
      · subst h1; rw [scan_end] at h ⊢; exact h
      · by_cases h2 : c = 92
        · subst h2
          cases r1 with
          | nil => rw [scan_bs] at h; cases h
          | cons d r2 =>
            simp only [List.length_cons] at hr
            by_cases h3 : d = 110
            · subst h3; rw [scan_n] at h ⊢; exact step _ _ _ (by omega) h
            · by_cases h4 : d = 120
              · subst h4
                match r2, hr, h with
                | [], hr, h => rw [scan_x0] at h; cases h
                | [a], hr, h => rw [scan_x1] at h; cases h
                | a :: b :: r4, hr, h =>
                  simp only [List.length_cons] at hr
                  rw [scan_x] at h ⊢
                  split at h
                  · rename_i hx; rw [if_pos hx]; exact step _ _ _ (by omega) h
                  · cases h
              · rw [scan_d _ _ _ _ h3 h4] at h ⊢
                split at h
                · cases h
                · rw [if_neg (by simp)]; exact step _ _ _ (by omega) h
        · rw [scan_one _ _ _ _ h1 h2] at h ⊢; exact step _ _ _ (by omega) h
theorem quote1_first (c : UInt8) (h : c ≠ 92) (x : B) (y : B) (e : quote1 c ++ x = c :: y) : x = y := by
  unfold quote1 at e
  split at e
  · rename_i h1
    simp only [List.cons_append, List.cons.injEq] at e
    exact absurd e.1.symm h
  · split at e
    · simp only [List.cons_append, List.cons.injEq] at e; exact absurd e.1.symm h
    · split at e
      · simp only [List.cons_append, List.cons.injEq] at e; exact absurd e.1.symm h
      · simpa using e
theorem scan_ext : ∀ (N : Nat) (st : Bool) (a r : B) (x : B) (m : Nat), r.length ≤ N → scan st a r = some (x, m) → ∃ t', x = a ++ t' := by
  intro N
  induction N with
  | zero => intro st a r x m hr h; obtain rfl : r = [] := List.eq_nil_of_length_eq_zero (by omega); rw [scan_nil] at h; cases h
  | succ N ihN =>
    intro st a r x m hr h
    have st1 : ∀ (k : Nat) (p r' : B), r'.length ≤ N → more k (scan st (a ++ p) r') = some (x, m) → ∃ t', x = a ++ t' := by
      intro k p r' hr' h'
      obtain ⟨m', e, _⟩ := more_eq h'
      obtain ⟨t', ht⟩ := ihN st (a ++ p) r' x m' hr' e
      exact ⟨p ++ t', by rw [ht, List.append_assoc]⟩
    cases r with
    | nil => rw [scan_nil] at h; cases h
    | cons c r1 =>
      simp only [List.length_cons] at hr
      by_cases h1 : c = 34
      · subst h1; rw [scan_end] at h; cases h; exact ⟨[], by simp⟩
      · by_cases h2 : c = 92
        · subst h2
          cases r1 with
          | nil => rw [scan_bs] at h; cases h
          | cons d r2 =>
            simp only [List.length_cons] at hr
            by_cases h3 : d = 110
            · subst h3; rw [scan_n] at h; exact st1 _ _ _ (by omega) h
            · by_cases h4 : d = 120
              · subst h4
                match r2, hr, h with
                | [], hr, h => rw [scan_x0] at h; cases h
                | [a'], hr, h => rw [scan_x1] at h; cases h
                | a' :: b :: r4, hr, h =>
                  simp only [List.length_cons] at hr
                  rw [scan_x] at h
                  split at h
                  · exact st1 _ _ _ (by omega) h
                  · cases h
              · rw [scan_d _ _ _ _ h3 h4] at h
                split at h
                · cases h
                · exact st1 _ _ _ (by omega) h
        · rw [scan_one _ _ _ _ h1 h2] at h; exact st1 _ _ _ (by omega) h
theorem scan_strict (n : Nat) : ∀ (acc r t : B) (m : Nat), r.length ≤ n → scan false acc r = some (acc ++ t, m) → quoteIn t ++ [34] = r.take m → scan true acc r = some (acc ++ t, m) := by
  induction n with
  | zero => intro acc r t m hr h hq; obtain rfl : r = [] := List.eq_nil_of_length_eq_zero (by omega); rw [scan_nil] at h; cases h
  | succ n ih =>
    intro acc r t m hr h hq
    have grow : ∀ (k : Nat) (p r' : B), r'.length ≤ n → more k (scan false (acc ++ p) r') = some (acc ++ t, m) → (∀ t', t = p ++ t' → ∀ m', m = m' + k → quoteIn t' ++ [34] = r'.take m') → more k (scan true (acc ++ p) r') = some (acc ++ t, m) := by
      intro k p r' hr' h' hq'
      obtain ⟨m', e, hm⟩ := more_eq h'
      obtain ⟨t', ht⟩ := scan_ext _ _ _ _ _ _ (Nat.le_refl _) e
      rw [List.append_assoc] at ht
      have ht' : t = p ++ t' := List.append_cancel_left ht
      rw [ht', ← List.append_assoc] at e
      rw [ih (acc ++ p) r' t' m' hr' e (hq' t' ht' m' hm), more_some, List.append_assoc, ← ht', hm]
    cases r with
    | nil => rw [scan_nil] at h; cases h
    | cons c r1 =>
      simp only [List.length_cons] at hr
      by_cases h1 : c = 34
      · subst h1; rw [scan_end] at h ⊢; exact h
      · by_cases h2 : c = 92
        · subst h2
          cases r1 with
          | nil => rw [scan_bs] at h; cases h
          | cons d r2 =>
            simp only [List.length_cons] at hr
            by_cases h3 : d = 110
            · subst h3; rw [scan_n] at h ⊢
              refine grow _ _ _ (by omega) h fun t' ht m' hm => ?_
              rw [ht, hm, show m' + 2 = (m' + 1) + 1 from rfl, List.take_succ_cons, List.take_succ_cons] at hq
              simpa [quoteIn, quote1] using hq
            · by_cases h4 : d = 120
              · subst h4
                match r2, hr, h, hq with
                | [], hr, h, hq => rw [scan_x0] at h; cases h
                | [a], hr, h, hq => rw [scan_x1] at h; cases h
                | a :: b :: r4, hr, h, hq =>
                  simp only [List.length_cons] at hr
                  rw [scan_x] at h ⊢
                  split at h
                  · rename_i hx
                    rw [if_pos hx]
                    obtain ⟨e, he⟩ := getHex_two a b hx
                    rw [he] at h ⊢
                    refine grow _ _ _ (by omega) h fun t' ht m' hm => ?_
                    rw [ht, hm, show m' + 4 = (((m' + 1) + 1) + 1) + 1 from rfl, List.take_succ_cons, List.take_succ_cons, List.take_succ_cons, List.take_succ_cons] at hq
                    simp only [quoteIn, List.cons_append, List.nil_append, List.flatMap_cons, List.append_assoc] at hq
                    unfold quote1 at hq
                    split at hq
                    · rename_i he2
                      simp only [List.cons_append, List.cons.injEq] at hq
                      rcases he2 with rfl | rfl
                      · exact absurd hq.2.1 (by decide)
                      · exact absurd hq.2.1 (by decide)
                    · split at hq
                      · simp only [List.cons_append, List.cons.injEq] at hq
                        exact absurd hq.2.1 (by decide)
                      · split at hq
                        · simp only [hexOf, List.cons_append, List.nil_append, List.cons.injEq] at hq
                          exact hq.2.2.2.2
                        · rename_i hn1 _ _
                          simp only [List.cons_append, List.cons.injEq] at hq
                          exact absurd (.inr hq.1) hn1
                  · cases h
              · rw [scan_d _ _ _ _ h3 h4, if_neg (by simp)] at h
                by_cases h5 : d = 34 ∨ d = 92
                · rw [scan_d _ _ _ _ h3 h4, if_neg (by rcases h5 with rfl | rfl <;> simp)]
                  refine grow _ _ _ (by omega) h fun t' ht m' hm => ?_
                  rw [ht, hm, show m' + 2 = (m' + 1) + 1 from rfl, List.take_succ_cons, List.take_succ_cons] at hq
                  simpa [quoteIn, quote1, h5] using hq
                · exfalso
                  obtain ⟨m', e, hm⟩ := more_eq h
                  obtain ⟨t', ht⟩ := scan_ext _ _ _ _ _ _ (Nat.le_refl _) e
                  rw [List.append_assoc] at ht
                  have ht' : t = [d] ++ t' := List.append_cancel_left ht
                  rw [ht', hm, show m' + 2 = (m' + 1) + 1 from rfl, List.take_succ_cons, List.take_succ_cons] at hq
                  simp only [quoteIn, List.cons_append, List.nil_append, List.flatMap_cons, List.append_assoc] at hq
                  unfold quote1 at hq
                  rw [if_neg h5] at hq
                  split at hq
                  · rename_i h10
                    simp only [List.cons_append, List.cons.injEq] at hq
                    exact h3 hq.2.1.symm
                  · split at hq
                    · simp only [List.cons_append, List.cons.injEq] at hq
                      exact h4 hq.2.1.symm
                    · simp only [List.cons_append, List.cons.injEq] at hq
                      exact h5 (.inr hq.1)
        · rw [scan_one _ _ _ _ h1 h2] at h ⊢
          refine grow _ _ _ (by omega) h fun t' ht m' hm => ?_
          rw [ht, hm, List.take_succ_cons] at hq
          simp only [quoteIn, List.cons_append, List.nil_append, List.flatMap_cons, List.append_assoc] at hq
          exact quote1_first c h2 _ _ hq
end Go.Proofs.YtbfbomcfmgdpkaaGreatDoor.U

end
