/- A part of the proof that the law FnPick answers true at every input that its row speaks of. Conditions: the row's own. -/
import Derived.Test.YtoidompkofomjaaGreatDoorMFnPick6
import Derived.Test.YtoidompkofomjaaGreatDoorKFnPick0
import Derived.Test.YtoidompkofomjaaGreatDoorKFnPick1
import Derived.Test.YtoidompkofomjaaGreatDoorMFnPick0
import Derived.Test.YtoidompkofomjaaGreatDoorMFnPick3
import Derived.Test.YtoidompkofomjaaGreatDoorGlob
import Derived.Test.YtoidompkofomjaaGreatDoorOpZ
import Derived.Test.YtoidompkofomjaaGreatDoorMFnPick1
section
namespace Go.Proofs.YtoidompkofomjaaGreatDoor.VI
open Go Go.RowKit Go.Proofs.YtoidompkofomjaaGreatDoor.G Go.Proofs.YtoidompkofomjaaGreatDoorW.PrintWords
set_option maxRecDepth 100000
set_option maxHeartbeats 16000000
attribute [local irreducible] bite obind vget
theorem spec_RangeOk.vi {k m : Nat} {Gv : FuncId → Option (List VV → Option (VV × List VV))} (hG : Base Gv) (hm : k + 8 ≤ m) (l0 : List (S45)) : Im (fun r => (.bool r, [])) (spec_RangeOk.f k l0) (callv Tryz.prog ti keep Gv m 42 [.sl (l0.map e45)]) := by
  obtain ⟨m, rfl⟩ : ∃ m', m = m' + 1 := ⟨m - 1, by omega⟩
  rw [show callv Tryz.prog ti keep Gv (m + 1) 42 _ = _ from callv_enter ((hG 42 (by decide) (by decide) (by decide)).trans rfl) Tryz.func42 (by kernel_rfl) rfl rfl]
  unfold spec_RangeOk.f
  repeat' first
    | (with_reducible first | exact Im.none | refine Im.ite (fun h => ?_) (fun h => ?_) | refine Im.sbind ?_)
    | ((conv => arg 3; whnf); first
      | ((with_reducible refine Im.fin ?_); exact zr) | ((with_reducible refine Im.anyo ?_ ?_); (next => kernel_rfl)) | ((with_reducible refine Im.bite_t ?_ ?_); (next => exact zq)) | ((with_reducible refine Im.bite_f ?_ ?_); (next => exact zq)) | ((with_reducible refine Im.bite_t ?_ ?_); (next => exact zd)) | ((with_reducible refine Im.must ?_ ?_); (next => exact zd)) | ((with_reducible refine Im.bite_f ?_ ?_); (next => exact zd)) | (with_reducible refine Im.byl ?_) | ((with_reducible refine Im.vget ByteArray.empty ?_ ?_ ?_); (next => exact zd); (next => exact zd)) | ((with_reducible refine Im.vget z45 ?_ ?_ ?_); (next => exact zd); (next => exact zd)) | ((with_reducible refine Im.vget (0 : Int) ?_ ?_ ?_); (next => exact zd); (next => exact zd)) | ((with_reducible refine Im.vget false ?_ ?_ ?_); (next => exact zd); (next => exact zd)) | ((with_reducible refine Im.call (spec_l01In.vi hG ?_ _ _ _) ?_ (fun r hr => ?_)); (next => omega); (next => exact zr)) | ((with_reducible refine Im.call (spec_l03Is.vi hG ?_ _) ?_ (fun r hr => ?_)); (next => omega); (next => exact zr))
      | ((with_reducible refine Im.loop (S := fun s : List (S45) × Int => [.sl (s.1.map e45), .un, .un, .int s.2, .un, .un, .un, .un, .un, .un, .un, .un, .un, .un, .un, .un, .un, .un, .un, .un, .un, .un, .un, .un, .un, .un, .un, .un, .un]) (L := fun k s => spec_RangeOk.l0 k s.1 s.2) _ ?_ ?_ _ _ ⟨_, _⟩ _ (Nat.le_refl _) zo ?_)
         (next => intro s; rfl)
         (next =>
           intro k1 M1 ⟨x0, x3⟩ hk1 hM1 ih1
           conv => arg 2; simp only [spec_RangeOk.l0]
           repeat' first
             | (with_reducible first | exact Im.none | refine Im.ite (fun h => ?_) (fun h => ?_) | refine Im.sbind ?_)
             | ((conv => arg 3; whnf); first
               | ((with_reducible refine Im.fin ?_); exact zr) | ((with_reducible refine Im.anyo ?_ ?_); (next => kernel_rfl)) | ((with_reducible refine Im.bite_t ?_ ?_); (next => exact zq)) | ((with_reducible refine Im.bite_f ?_ ?_); (next => exact zq)) | ((with_reducible refine Im.bite_t ?_ ?_); (next => exact zd)) | ((with_reducible refine Im.must ?_ ?_); (next => exact zd)) | ((with_reducible refine Im.bite_f ?_ ?_); (next => exact zd)) | (with_reducible refine Im.byl ?_) | ((with_reducible refine Im.vget ByteArray.empty ?_ ?_ ?_); (next => exact zd); (next => exact zd)) | ((with_reducible refine Im.vget z45 ?_ ?_ ?_); (next => exact zd); (next => exact zd)) | ((with_reducible refine Im.vget (0 : Int) ?_ ?_ ?_); (next => exact zd); (next => exact zd)) | ((with_reducible refine Im.vget false ?_ ?_ ?_); (next => exact zd); (next => exact zd)) | ((with_reducible refine Im.call (spec_l01In.vi hG ?_ _ _ _) ?_ (fun r hr => ?_)); (next => omega); (next => exact zr)) | ((with_reducible refine Im.call (spec_l03Is.vi hG ?_ _) ?_ (fun r hr => ?_)); (next => omega); (next => exact zr)) | ((with_reducible refine ih1 _ ⟨_, _⟩ _ ?_ ?_); (next => exact zo); exact zr)
               | exact zm | exact zx | fail)
           all_goals skip)
         exact zr)
      | exact zm | exact zx | fail)
  all_goals skip
theorem spec_Words.vi {k m : Nat} {Gv : FuncId → Option (List VV → Option (VV × List VV))} (hG : Base Gv) (hm : k + 2 ≤ m) (a0 : ByteArray) : Im (fun r => (.ow 9 1 (r.map VV.str), [])) (spec_Words.f k a0) (callv Tryz.prog ti keep Gv m 127 [.str a0]) := by
  obtain ⟨m, rfl⟩ : ∃ m', m = m' + 1 := ⟨m - 1, by omega⟩
  rw [show callv Tryz.prog ti keep Gv (m + 1) 127 _ = _ from callv_enter ((hG 127 (by decide) (by decide) (by decide)).trans rfl) Tryz.func127 (by kernel_rfl) rfl rfl]
  unfold spec_Words.f
  repeat' first
    | (with_reducible first | exact Im.none | refine Im.ite (fun h => ?_) (fun h => ?_) | refine Im.sbind ?_)
    | ((conv => arg 3; whnf); first
      | ((with_reducible refine Im.fin ?_); exact zr) | ((with_reducible refine Im.anyo ?_ ?_); (next => kernel_rfl)) | ((with_reducible refine Im.bite_t ?_ ?_); (next => exact zq)) | ((with_reducible refine Im.bite_f ?_ ?_); (next => exact zq)) | ((with_reducible refine Im.bite_t ?_ ?_); (next => exact zd)) | ((with_reducible refine Im.must ?_ ?_); (next => exact zd)) | ((with_reducible refine Im.bite_f ?_ ?_); (next => exact zd)) | (with_reducible refine Im.byl ?_) | ((with_reducible refine Im.vget ByteArray.empty ?_ ?_ ?_); (next => exact zd); (next => exact zd)) | ((with_reducible refine Im.vget z45 ?_ ?_ ?_); (next => exact zd); (next => exact zd)) | ((with_reducible refine Im.vget (0 : Int) ?_ ?_ ?_); (next => exact zd); (next => exact zd)) | ((with_reducible refine Im.vget false ?_ ?_ ?_); (next => exact zd); (next => exact zd)) | ((with_reducible refine Im.call (spec_l01Cut.vi hG ?_ _ _) ?_ (fun r hr => ?_)); (next => omega); (next => exact zr))
      | exact zm | exact zx | fail)
  all_goals skip
theorem spec_l03Signs.vi {k m : Nat} {Gv : FuncId → Option (List VV → Option (VV × List VV))} (hG : Base Gv) (hm : k + 9 ≤ m) (a0 : ByteArray) : Im (fun r => (.tu [.ag [.str r.1, .str r.2.1], .bool r.2.2], [])) (spec_l03Signs.f k a0) (callv Tryz.prog ti keep Gv m 92 [.str a0]) := by
  obtain ⟨m, rfl⟩ : ∃ m', m = m' + 1 := ⟨m - 1, by omega⟩
  rw [show callv Tryz.prog ti keep Gv (m + 1) 92 _ = _ from callv_enter ((hG 92 (by decide) (by decide) (by decide)).trans rfl) Tryz.func92 (by kernel_rfl) rfl rfl]
  unfold spec_l03Signs.f
  repeat' first
    | (with_reducible first | exact Im.none | refine Im.ite (fun h => ?_) (fun h => ?_) | refine Im.sbind ?_)
    | ((conv => arg 3; whnf); first
      | ((with_reducible refine Im.fin ?_); exact zr) | ((with_reducible refine Im.anyo ?_ ?_); (next => kernel_rfl)) | ((with_reducible refine Im.bite_t ?_ ?_); (next => exact zq)) | ((with_reducible refine Im.bite_f ?_ ?_); (next => exact zq)) | ((with_reducible refine Im.bite_t ?_ ?_); (next => exact zd)) | ((with_reducible refine Im.must ?_ ?_); (next => exact zd)) | ((with_reducible refine Im.bite_f ?_ ?_); (next => exact zd)) | (with_reducible refine Im.byl ?_) | ((with_reducible refine Im.vget ByteArray.empty ?_ ?_ ?_); (next => exact zd); (next => exact zd)) | ((with_reducible refine Im.vget z45 ?_ ?_ ?_); (next => exact zd); (next => exact zd)) | ((with_reducible refine Im.vget (0 : Int) ?_ ?_ ?_); (next => exact zd); (next => exact zd)) | ((with_reducible refine Im.vget false ?_ ?_ ?_); (next => exact zd); (next => exact zd)) | ((with_reducible refine Im.call (spec_RangeOk.vi hG ?_ _) ?_ (fun r hr => ?_)); (next => omega); (next => exact zr)) | ((with_reducible refine Im.call (spec_Words.vi hG ?_ _) ?_ (fun r hr => ?_)); (next => omega); (next => exact zr))
      | ((with_reducible refine Im.loop (S := fun s : List ByteArray × Int × ByteArray × ByteArray => [.un, .un, .bx [.s (.string ⟨#[]⟩), .s (.string ⟨#[]⟩)], .un, .ow 9 1 (s.1.map VV.str), .bx [.str s.2.2.1, .str s.2.2.2], .int s.2.1, .un, .un, .un, .un, .un, .un, .un, .un, .un, .un, .un, .un, .un, .un, .un, .un, .un, .un, .un, .un, .un, .un, .un, .un, .un, .un, .un, .un, .un, .un, .un, .un, .un, .un, .un, .un, .un, .un, .un, .un, .un, .un, .un, .un, .un, .un, .un, .un, .un, .un, .un, .un, .un, .un, .un, .un, .un, .un, .un, .un, .un, .un, .un, .un, .un, .un, .un, .un, .un, .un, .un, .un, .un, .un]) (L := fun k s => spec_l03Signs.l0 k s.1 s.2.1 s.2.2.1 s.2.2.2) _ ?_ ?_ _ _ ⟨_, _, _, _⟩ _ (Nat.le_refl _) zo ?_)
         (next => intro s; rfl)
         (next =>
           intro k1 M1 ⟨x4, x6, x379000, x379001⟩ hk1 hM1 ih1
           conv => arg 2; simp only [spec_l03Signs.l0]
           repeat' first
             | ((with_reducible refine Im.nat (fun k => spec_l03Signs.j1 k _ _ _ _ _) _ ?_ (fun kj hkj => ?_)); (next => rfl); (conv => arg 2; simp only [spec_l03Signs.j1, Bool.false_eq_true, reduceIte])) | (with_reducible first | exact Im.none | refine Im.ite (fun h => ?_) (fun h => ?_) | refine Im.sbind ?_)
             | ((conv => arg 3; whnf); first
               | ((with_reducible refine Im.fin ?_); exact zr) | ((with_reducible refine Im.anyo ?_ ?_); (next => kernel_rfl)) | ((with_reducible refine Im.bite_t ?_ ?_); (next => exact zq)) | ((with_reducible refine Im.bite_f ?_ ?_); (next => exact zq)) | ((with_reducible refine Im.bite_t ?_ ?_); (next => exact zd)) | ((with_reducible refine Im.must ?_ ?_); (next => exact zd)) | ((with_reducible refine Im.bite_f ?_ ?_); (next => exact zd)) | (with_reducible refine Im.byl ?_) | ((with_reducible refine Im.vget ByteArray.empty ?_ ?_ ?_); (next => exact zd); (next => exact zd)) | ((with_reducible refine Im.vget z45 ?_ ?_ ?_); (next => exact zd); (next => exact zd)) | ((with_reducible refine Im.vget (0 : Int) ?_ ?_ ?_); (next => exact zd); (next => exact zd)) | ((with_reducible refine Im.vget false ?_ ?_ ?_); (next => exact zd); (next => exact zd)) | ((with_reducible refine Im.call (spec_RangeOk.vi hG ?_ _) ?_ (fun r hr => ?_)); (next => omega); (next => exact zr)) | ((with_reducible refine Im.call (spec_Words.vi hG ?_ _) ?_ (fun r hr => ?_)); (next => omega); (next => exact zr)) | ((with_reducible refine ih1 _ ⟨_, _, _, _⟩ _ ?_ ?_); (next => exact zo); exact zr)
               | exact zm | exact zx | (exfalso; omega) | fail)
           all_goals skip)
         exact zr)
      | exact zm | exact zx | (exfalso; omega) | fail)
  all_goals skip
theorem spec_l03Part.vi {k m : Nat} {Gv : FuncId → Option (List VV → Option (VV × List VV))} (hG : Base Gv) (hm : k + 10 ≤ m) (a0 : ByteArray) : Im (fun r => (.tu [.ag [.str r.1, .str r.2.1], .bool r.2.2], [])) (spec_l03Part.f k a0) (callv Tryz.prog ti keep Gv m 58 [.str a0]) := by
  obtain ⟨m, rfl⟩ : ∃ m', m = m' + 1 := ⟨m - 1, by omega⟩
  rw [show callv Tryz.prog ti keep Gv (m + 1) 58 _ = _ from callv_enter ((hG 58 (by decide) (by decide) (by decide)).trans rfl) Tryz.func58 (by kernel_rfl) rfl rfl]
  unfold spec_l03Part.f
  repeat' first
    | ((with_reducible refine Im.nat (fun k => spec_l03Part.j0 k _ _) _ ?_ (fun kj hkj => ?_)); (next => rfl); (conv => arg 2; simp only [spec_l03Part.j0, Bool.false_eq_true, reduceIte])) | ((with_reducible refine Im.nat (fun k => spec_l03Part.j1 k _ _) _ ?_ (fun kj hkj => ?_)); (next => rfl); (conv => arg 2; simp only [spec_l03Part.j1, Bool.false_eq_true, reduceIte])) | (with_reducible first | exact Im.none | refine Im.ite (fun h => ?_) (fun h => ?_) | refine Im.sbind ?_)
    | ((conv => arg 3; whnf); first
      | ((with_reducible refine Im.fin ?_); exact zr) | ((with_reducible refine Im.anyo ?_ ?_); (next => kernel_rfl)) | ((with_reducible refine Im.bite_t ?_ ?_); (next => exact zq)) | ((with_reducible refine Im.bite_f ?_ ?_); (next => exact zq)) | ((with_reducible refine Im.bite_t ?_ ?_); (next => exact zd)) | ((with_reducible refine Im.must ?_ ?_); (next => exact zd)) | ((with_reducible refine Im.bite_f ?_ ?_); (next => exact zd)) | (with_reducible refine Im.byl ?_) | ((with_reducible refine Im.vget ByteArray.empty ?_ ?_ ?_); (next => exact zd); (next => exact zd)) | ((with_reducible refine Im.vget z45 ?_ ?_ ?_); (next => exact zd); (next => exact zd)) | ((with_reducible refine Im.vget (0 : Int) ?_ ?_ ?_); (next => exact zd); (next => exact zd)) | ((with_reducible refine Im.vget false ?_ ?_ ?_); (next => exact zd); (next => exact zd)) | ((with_reducible refine Im.call (spec_ReadVersion.vi hG ?_ _) ?_ (fun r hr => ?_)); (next => omega); (next => exact zr)) | ((with_reducible refine Im.call (spec_l03Alone.vi hG ?_ _) ?_ (fun r hr => ?_)); (next => omega); (next => exact zr)) | ((with_reducible refine Im.call (spec_l03Caret.vi hG ?_ _ _ _ _) ?_ (fun r hr => ?_)); (next => omega); (next => exact zr)) | ((with_reducible refine Im.call (spec_l03From.vi hG ?_ _ _ _ _ _ _) ?_ (fun r hr => ?_)); (next => omega); (next => exact zr)) | ((with_reducible refine Im.call (spec_l03Short.vi hG ?_ _) ?_ (fun r hr => ?_)); (next => omega); (next => exact zr)) | ((with_reducible refine Im.call (spec_l03Signs.vi hG ?_ _) ?_ (fun r hr => ?_)); (next => omega); (next => exact zr))
      | exact zm | exact zx | fail)
  all_goals skip
theorem impl_isDigit.vi {m : Nat} {Gv : FuncId → Option (List VV → Option (VV × List VV))} (hG : Base Gv) (hm : 1 ≤ m) (a0 : Int) : Im (fun r => (.bool r, [])) (impl_isDigit.f a0) (callv Tryz.prog ti keep Gv m 78 [.byte a0]) := by
  obtain ⟨m, rfl⟩ : ∃ m', m = m' + 1 := ⟨m - 1, by omega⟩
  rw [show callv Tryz.prog ti keep Gv (m + 1) 78 _ = _ from callv_enter ((hG 78 (by decide) (by decide) (by decide)).trans rfl) Tryz.func78 (by kernel_rfl) rfl rfl]
  unfold impl_isDigit.f
  repeat' first
    | (with_reducible first | exact Im.none | refine Im.ite (fun h => ?_) (fun h => ?_) | refine Im.sbind ?_)
    | ((conv => arg 3; whnf); first
      | ((with_reducible refine Im.fin ?_); exact zr) | ((with_reducible refine Im.anyo ?_ ?_); (next => kernel_rfl)) | ((with_reducible refine Im.bite_t ?_ ?_); (next => exact zq)) | ((with_reducible refine Im.bite_f ?_ ?_); (next => exact zq)) | ((with_reducible refine Im.bite_t ?_ ?_); (next => exact zd)) | ((with_reducible refine Im.must ?_ ?_); (next => exact zd)) | ((with_reducible refine Im.bite_f ?_ ?_); (next => exact zd)) | (with_reducible refine Im.byl ?_) | ((with_reducible refine Im.vget ByteArray.empty ?_ ?_ ?_); (next => exact zd); (next => exact zd)) | ((with_reducible refine Im.vget z45 ?_ ?_ ?_); (next => exact zd); (next => exact zd)) | ((with_reducible refine Im.vget (0 : Int) ?_ ?_ ?_); (next => exact zd); (next => exact zd)) | ((with_reducible refine Im.vget false ?_ ?_ ?_); (next => exact zd); (next => exact zd))
      | exact zm | exact zx | fail)
  all_goals skip
theorem impl_isLower.vi {m : Nat} {Gv : FuncId → Option (List VV → Option (VV × List VV))} (hG : Base Gv) (hm : 1 ≤ m) (a0 : Int) : Im (fun r => (.bool r, [])) (impl_isLower.f a0) (callv Tryz.prog ti keep Gv m 119 [.byte a0]) := by
  obtain ⟨m, rfl⟩ : ∃ m', m = m' + 1 := ⟨m - 1, by omega⟩
  rw [show callv Tryz.prog ti keep Gv (m + 1) 119 _ = _ from callv_enter ((hG 119 (by decide) (by decide) (by decide)).trans rfl) Tryz.func119 (by kernel_rfl) rfl rfl]
  unfold impl_isLower.f
  repeat' first
    | (with_reducible first | exact Im.none | refine Im.ite (fun h => ?_) (fun h => ?_) | refine Im.sbind ?_)
    | ((conv => arg 3; whnf); first
      | ((with_reducible refine Im.fin ?_); exact zr) | ((with_reducible refine Im.anyo ?_ ?_); (next => kernel_rfl)) | ((with_reducible refine Im.bite_t ?_ ?_); (next => exact zq)) | ((with_reducible refine Im.bite_f ?_ ?_); (next => exact zq)) | ((with_reducible refine Im.bite_t ?_ ?_); (next => exact zd)) | ((with_reducible refine Im.must ?_ ?_); (next => exact zd)) | ((with_reducible refine Im.bite_f ?_ ?_); (next => exact zd)) | (with_reducible refine Im.byl ?_) | ((with_reducible refine Im.vget ByteArray.empty ?_ ?_ ?_); (next => exact zd); (next => exact zd)) | ((with_reducible refine Im.vget z45 ?_ ?_ ?_); (next => exact zd); (next => exact zd)) | ((with_reducible refine Im.vget (0 : Int) ?_ ?_ ?_); (next => exact zd); (next => exact zd)) | ((with_reducible refine Im.vget false ?_ ?_ ?_); (next => exact zd); (next => exact zd))
      | exact zm | exact zx | fail)
  all_goals skip
theorem impl_isLetter.vi {m : Nat} {Gv : FuncId → Option (List VV → Option (VV × List VV))} (hG : Base Gv) (hm : 2 ≤ m) (a0 : Int) : Im (fun r => (.bool r, [])) (impl_isLetter.f a0) (callv Tryz.prog ti keep Gv m 77 [.byte a0]) := by
  obtain ⟨m, rfl⟩ : ∃ m', m = m' + 1 := ⟨m - 1, by omega⟩
  rw [show callv Tryz.prog ti keep Gv (m + 1) 77 _ = _ from callv_enter ((hG 77 (by decide) (by decide) (by decide)).trans rfl) Tryz.func77 (by kernel_rfl) rfl rfl]
  unfold impl_isLetter.f
  repeat' first
    | (with_reducible first | exact Im.none | refine Im.ite (fun h => ?_) (fun h => ?_) | refine Im.sbind ?_)
    | ((conv => arg 3; whnf); first
      | ((with_reducible refine Im.fin ?_); exact zr) | ((with_reducible refine Im.anyo ?_ ?_); (next => kernel_rfl)) | ((with_reducible refine Im.bite_t ?_ ?_); (next => exact zq)) | ((with_reducible refine Im.bite_f ?_ ?_); (next => exact zq)) | ((with_reducible refine Im.bite_t ?_ ?_); (next => exact zd)) | ((with_reducible refine Im.must ?_ ?_); (next => exact zd)) | ((with_reducible refine Im.bite_f ?_ ?_); (next => exact zd)) | (with_reducible refine Im.byl ?_) | ((with_reducible refine Im.vget ByteArray.empty ?_ ?_ ?_); (next => exact zd); (next => exact zd)) | ((with_reducible refine Im.vget z45 ?_ ?_ ?_); (next => exact zd); (next => exact zd)) | ((with_reducible refine Im.vget (0 : Int) ?_ ?_ ?_); (next => exact zd); (next => exact zd)) | ((with_reducible refine Im.vget false ?_ ?_ ?_); (next => exact zd); (next => exact zd)) | ((with_reducible refine Im.call (impl_isLower.vi hG ?_ _) ?_ (fun r hr => ?_)); (next => omega); (next => exact zr))
      | exact zm | exact zx | fail)
  all_goals skip
theorem impl_VersionOk_1.vi {m : Nat} {Gv : FuncId → Option (List VV → Option (VV × List VV))} (hG : Base Gv) (hm : 3 ≤ m) (a0 : Int) : Im (fun r => (.bool r, [])) (impl_VersionOk_1.f a0) (callv Tryz.prog ti keep Gv m 76 [.byte a0]) := by
  obtain ⟨m, rfl⟩ : ∃ m', m = m' + 1 := ⟨m - 1, by omega⟩
  rw [show callv Tryz.prog ti keep Gv (m + 1) 76 _ = _ from callv_enter ((hG 76 (by decide) (by decide) (by decide)).trans rfl) Tryz.func76 (by kernel_rfl) rfl rfl]
  unfold impl_VersionOk_1.f
  repeat' first
    | (with_reducible first | exact Im.none | refine Im.ite (fun h => ?_) (fun h => ?_) | refine Im.sbind ?_)
    | ((conv => arg 3; whnf); first
      | ((with_reducible refine Im.fin ?_); exact zr) | ((with_reducible refine Im.anyo ?_ ?_); (next => kernel_rfl)) | ((with_reducible refine Im.bite_t ?_ ?_); (next => exact zq)) | ((with_reducible refine Im.bite_f ?_ ?_); (next => exact zq)) | ((with_reducible refine Im.bite_t ?_ ?_); (next => exact zd)) | ((with_reducible refine Im.must ?_ ?_); (next => exact zd)) | ((with_reducible refine Im.bite_f ?_ ?_); (next => exact zd)) | (with_reducible refine Im.byl ?_) | ((with_reducible refine Im.vget ByteArray.empty ?_ ?_ ?_); (next => exact zd); (next => exact zd)) | ((with_reducible refine Im.vget z45 ?_ ?_ ?_); (next => exact zd); (next => exact zd)) | ((with_reducible refine Im.vget (0 : Int) ?_ ?_ ?_); (next => exact zd); (next => exact zd)) | ((with_reducible refine Im.vget false ?_ ?_ ?_); (next => exact zd); (next => exact zd)) | ((with_reducible refine Im.call (impl_isDigit.vi hG ?_ _) ?_ (fun r hr => ?_)); (next => omega); (next => exact zr)) | ((with_reducible refine Im.call (impl_isLetter.vi hG ?_ _) ?_ (fun r hr => ?_)); (next => omega); (next => exact zr))
      | exact zm | exact zx | fail)
  all_goals skip
theorem impl_all__impl_VersionOk_1.vi {k m : Nat} {Gv : FuncId → Option (List VV → Option (VV × List VV))} (hG : Base Gv) (hm : k + 4 ≤ m) (a0 : ByteArray) : Im (fun r => (.bool r, [])) (impl_all__impl_VersionOk_1.f k a0) (callv Tryz.prog ti keep Gv m 75 [.str a0, .cl 76 []]) := by
  obtain ⟨m, rfl⟩ : ∃ m', m = m' + 1 := ⟨m - 1, by omega⟩
  rw [show callv Tryz.prog ti keep Gv (m + 1) 75 _ = _ from callv_enter ((hG 75 (by decide) (by decide) (by decide)).trans rfl) Tryz.func75 (by kernel_rfl) rfl rfl]
  unfold impl_all__impl_VersionOk_1.f
  repeat' first
    | (with_reducible first | exact Im.none | refine Im.ite (fun h => ?_) (fun h => ?_) | refine Im.sbind ?_)
    | ((conv => arg 3; whnf); first
      | ((with_reducible refine Im.fin ?_); exact zr) | ((with_reducible refine Im.anyo ?_ ?_); (next => kernel_rfl)) | ((with_reducible refine Im.bite_t ?_ ?_); (next => exact zq)) | ((with_reducible refine Im.bite_f ?_ ?_); (next => exact zq)) | ((with_reducible refine Im.bite_t ?_ ?_); (next => exact zd)) | ((with_reducible refine Im.must ?_ ?_); (next => exact zd)) | ((with_reducible refine Im.bite_f ?_ ?_); (next => exact zd)) | (with_reducible refine Im.byl ?_) | ((with_reducible refine Im.vget ByteArray.empty ?_ ?_ ?_); (next => exact zd); (next => exact zd)) | ((with_reducible refine Im.vget z45 ?_ ?_ ?_); (next => exact zd); (next => exact zd)) | ((with_reducible refine Im.vget (0 : Int) ?_ ?_ ?_); (next => exact zd); (next => exact zd)) | ((with_reducible refine Im.vget false ?_ ?_ ?_); (next => exact zd); (next => exact zd)) | ((with_reducible refine Im.call (impl_VersionOk_1.vi hG ?_ _) ?_ (fun r hr => ?_)); (next => omega); (next => exact zr))
      | ((with_reducible refine Im.loop (S := fun s : ByteArray × Int × Int => [.str s.1, .cl 76 [], .un, .un, .un, .un, .un, .int s.2.1, .int s.2.2, .un, .un, .un, .un, .un, .un, .un, .un, .un]) (L := fun k s => impl_all__impl_VersionOk_1.l0 k s.1 s.2.1 s.2.2) _ ?_ ?_ _ _ ⟨_, _, _⟩ _ (Nat.le_refl _) zo ?_)
         (next => intro s; rfl)
         (next =>
           intro k1 M1 ⟨x0, x7, x8⟩ hk1 hM1 ih1
           conv => arg 2; simp only [impl_all__impl_VersionOk_1.l0]
           repeat' first
             | (with_reducible first | exact Im.none | refine Im.ite (fun h => ?_) (fun h => ?_) | refine Im.sbind ?_)
             | ((conv => arg 3; whnf); first
               | ((with_reducible refine Im.fin ?_); exact zr) | ((with_reducible refine Im.anyo ?_ ?_); (next => kernel_rfl)) | ((with_reducible refine Im.bite_t ?_ ?_); (next => exact zq)) | ((with_reducible refine Im.bite_f ?_ ?_); (next => exact zq)) | ((with_reducible refine Im.bite_t ?_ ?_); (next => exact zd)) | ((with_reducible refine Im.must ?_ ?_); (next => exact zd)) | ((with_reducible refine Im.bite_f ?_ ?_); (next => exact zd)) | (with_reducible refine Im.byl ?_) | ((with_reducible refine Im.vget ByteArray.empty ?_ ?_ ?_); (next => exact zd); (next => exact zd)) | ((with_reducible refine Im.vget z45 ?_ ?_ ?_); (next => exact zd); (next => exact zd)) | ((with_reducible refine Im.vget (0 : Int) ?_ ?_ ?_); (next => exact zd); (next => exact zd)) | ((with_reducible refine Im.vget false ?_ ?_ ?_); (next => exact zd); (next => exact zd)) | ((with_reducible refine Im.call (impl_VersionOk_1.vi hG ?_ _) ?_ (fun r hr => ?_)); (next => omega); (next => exact zr)) | ((with_reducible refine ih1 _ ⟨_, _, _⟩ _ ?_ ?_); (next => exact zo); exact zr)
               | exact zm | exact zx | fail)
           all_goals skip)
         exact zr)
      | exact zm | exact zx | fail)
  all_goals skip
theorem impl_all__impl_isDigit.vi {k m : Nat} {Gv : FuncId → Option (List VV → Option (VV × List VV))} (hG : Base Gv) (hm : k + 2 ≤ m) (a0 : ByteArray) : Im (fun r => (.bool r, [])) (impl_all__impl_isDigit.f k a0) (callv Tryz.prog ti keep Gv m 75 [.str a0, .cl 78 []]) := by
  obtain ⟨m, rfl⟩ : ∃ m', m = m' + 1 := ⟨m - 1, by omega⟩
  rw [show callv Tryz.prog ti keep Gv (m + 1) 75 _ = _ from callv_enter ((hG 75 (by decide) (by decide) (by decide)).trans rfl) Tryz.func75 (by kernel_rfl) rfl rfl]
  unfold impl_all__impl_isDigit.f
  repeat' first
    | (with_reducible first | exact Im.none | refine Im.ite (fun h => ?_) (fun h => ?_) | refine Im.sbind ?_)
    | ((conv => arg 3; whnf); first
      | ((with_reducible refine Im.fin ?_); exact zr) | ((with_reducible refine Im.anyo ?_ ?_); (next => kernel_rfl)) | ((with_reducible refine Im.bite_t ?_ ?_); (next => exact zq)) | ((with_reducible refine Im.bite_f ?_ ?_); (next => exact zq)) | ((with_reducible refine Im.bite_t ?_ ?_); (next => exact zd)) | ((with_reducible refine Im.must ?_ ?_); (next => exact zd)) | ((with_reducible refine Im.bite_f ?_ ?_); (next => exact zd)) | (with_reducible refine Im.byl ?_) | ((with_reducible refine Im.vget ByteArray.empty ?_ ?_ ?_); (next => exact zd); (next => exact zd)) | ((with_reducible refine Im.vget z45 ?_ ?_ ?_); (next => exact zd); (next => exact zd)) | ((with_reducible refine Im.vget (0 : Int) ?_ ?_ ?_); (next => exact zd); (next => exact zd)) | ((with_reducible refine Im.vget false ?_ ?_ ?_); (next => exact zd); (next => exact zd)) | ((with_reducible refine Im.call (impl_isDigit.vi hG ?_ _) ?_ (fun r hr => ?_)); (next => omega); (next => exact zr))
      | ((with_reducible refine Im.loop (S := fun s : ByteArray × Int × Int => [.str s.1, .cl 78 [], .un, .un, .un, .un, .un, .int s.2.1, .int s.2.2, .un, .un, .un, .un, .un, .un, .un, .un, .un]) (L := fun k s => impl_all__impl_isDigit.l0 k s.1 s.2.1 s.2.2) _ ?_ ?_ _ _ ⟨_, _, _⟩ _ (Nat.le_refl _) zo ?_)
         (next => intro s; rfl)
         (next =>
           intro k1 M1 ⟨x0, x7, x8⟩ hk1 hM1 ih1
           conv => arg 2; simp only [impl_all__impl_isDigit.l0]
           repeat' first
             | (with_reducible first | exact Im.none | refine Im.ite (fun h => ?_) (fun h => ?_) | refine Im.sbind ?_)
             | ((conv => arg 3; whnf); first
               | ((with_reducible refine Im.fin ?_); exact zr) | ((with_reducible refine Im.anyo ?_ ?_); (next => kernel_rfl)) | ((with_reducible refine Im.bite_t ?_ ?_); (next => exact zq)) | ((with_reducible refine Im.bite_f ?_ ?_); (next => exact zq)) | ((with_reducible refine Im.bite_t ?_ ?_); (next => exact zd)) | ((with_reducible refine Im.must ?_ ?_); (next => exact zd)) | ((with_reducible refine Im.bite_f ?_ ?_); (next => exact zd)) | (with_reducible refine Im.byl ?_) | ((with_reducible refine Im.vget ByteArray.empty ?_ ?_ ?_); (next => exact zd); (next => exact zd)) | ((with_reducible refine Im.vget z45 ?_ ?_ ?_); (next => exact zd); (next => exact zd)) | ((with_reducible refine Im.vget (0 : Int) ?_ ?_ ?_); (next => exact zd); (next => exact zd)) | ((with_reducible refine Im.vget false ?_ ?_ ?_); (next => exact zd); (next => exact zd)) | ((with_reducible refine Im.call (impl_isDigit.vi hG ?_ _) ?_ (fun r hr => ?_)); (next => omega); (next => exact zr)) | ((with_reducible refine ih1 _ ⟨_, _, _⟩ _ ?_ ?_); (next => exact zo); exact zr)
               | exact zm | exact zx | fail)
           all_goals skip)
         exact zr)
      | exact zm | exact zx | fail)
  all_goals skip
theorem impl_isNumber.vi {k m : Nat} {Gv : FuncId → Option (List VV → Option (VV × List VV))} (hG : Base Gv) (hm : k + 3 ≤ m) (a0 : ByteArray) : Im (fun r => (.bool r, [])) (impl_isNumber.f k a0) (callv Tryz.prog ti keep Gv m 51 [.str a0]) := by
  obtain ⟨m, rfl⟩ : ∃ m', m = m' + 1 := ⟨m - 1, by omega⟩
  rw [show callv Tryz.prog ti keep Gv (m + 1) 51 _ = _ from callv_enter ((hG 51 (by decide) (by decide) (by decide)).trans rfl) Tryz.func51 (by kernel_rfl) rfl rfl]
  unfold impl_isNumber.f
  repeat' first
    | (with_reducible first | exact Im.none | refine Im.ite (fun h => ?_) (fun h => ?_) | refine Im.sbind ?_)
    | ((conv => arg 3; whnf); first
      | ((with_reducible refine Im.fin ?_); exact zr) | ((with_reducible refine Im.anyo ?_ ?_); (next => kernel_rfl)) | ((with_reducible refine Im.bite_t ?_ ?_); (next => exact zq)) | ((with_reducible refine Im.bite_f ?_ ?_); (next => exact zq)) | ((with_reducible refine Im.bite_t ?_ ?_); (next => exact zd)) | ((with_reducible refine Im.must ?_ ?_); (next => exact zd)) | ((with_reducible refine Im.bite_f ?_ ?_); (next => exact zd)) | (with_reducible refine Im.byl ?_) | ((with_reducible refine Im.vget ByteArray.empty ?_ ?_ ?_); (next => exact zd); (next => exact zd)) | ((with_reducible refine Im.vget z45 ?_ ?_ ?_); (next => exact zd); (next => exact zd)) | ((with_reducible refine Im.vget (0 : Int) ?_ ?_ ?_); (next => exact zd); (next => exact zd)) | ((with_reducible refine Im.vget false ?_ ?_ ?_); (next => exact zd); (next => exact zd)) | ((with_reducible refine Im.call (impl_all__impl_isDigit.vi hG ?_ _) ?_ (fun r hr => ?_)); (next => omega); (next => exact zr))
      | exact zm | exact zx | fail)
  all_goals skip
theorem impl_within.vi {m : Nat} {Gv : FuncId → Option (List VV → Option (VV × List VV))} (hG : Base Gv) (hm : 1 ≤ m) (a0 : Int) (a1 : Int) (a2 : Int) : Im (fun r => (.bool r, [])) (impl_within.f a0 a1 a2) (callv Tryz.prog ti keep Gv m 44 [.int a0, .int a1, .int a2]) := by
  obtain ⟨m, rfl⟩ : ∃ m', m = m' + 1 := ⟨m - 1, by omega⟩
  rw [show callv Tryz.prog ti keep Gv (m + 1) 44 _ = _ from callv_enter ((hG 44 (by decide) (by decide) (by decide)).trans rfl) Tryz.func44 (by kernel_rfl) rfl rfl]
  unfold impl_within.f
  repeat' first
    | (with_reducible first | exact Im.none | refine Im.ite (fun h => ?_) (fun h => ?_) | refine Im.sbind ?_)
    | ((conv => arg 3; whnf); first
      | ((with_reducible refine Im.fin ?_); exact zr) | ((with_reducible refine Im.anyo ?_ ?_); (next => kernel_rfl)) | ((with_reducible refine Im.bite_t ?_ ?_); (next => exact zq)) | ((with_reducible refine Im.bite_f ?_ ?_); (next => exact zq)) | ((with_reducible refine Im.bite_t ?_ ?_); (next => exact zd)) | ((with_reducible refine Im.must ?_ ?_); (next => exact zd)) | ((with_reducible refine Im.bite_f ?_ ?_); (next => exact zd)) | (with_reducible refine Im.byl ?_) | ((with_reducible refine Im.vget ByteArray.empty ?_ ?_ ?_); (next => exact zd); (next => exact zd)) | ((with_reducible refine Im.vget z45 ?_ ?_ ?_); (next => exact zd); (next => exact zd)) | ((with_reducible refine Im.vget (0 : Int) ?_ ?_ ?_); (next => exact zd); (next => exact zd)) | ((with_reducible refine Im.vget false ?_ ?_ ?_); (next => exact zd); (next => exact zd))
      | exact zm | exact zx | fail)
  all_goals skip
theorem impl_compareInts.vi {m : Nat} {Gv : FuncId → Option (List VV → Option (VV × List VV))} (hG : Base Gv) (hm : 1 ≤ m) (a0 : Int) (a1 : Int) : Im (fun r => (.int r, [])) (impl_compareInts.f a0 a1) (callv Tryz.prog ti keep Gv m 28 [.int a0, .int a1]) := by
  obtain ⟨m, rfl⟩ : ∃ m', m = m' + 1 := ⟨m - 1, by omega⟩
  rw [show callv Tryz.prog ti keep Gv (m + 1) 28 _ = _ from callv_enter ((hG 28 (by decide) (by decide) (by decide)).trans rfl) Tryz.func28 (by kernel_rfl) rfl rfl]
  unfold impl_compareInts.f
  repeat' first
    | (with_reducible first | exact Im.none | refine Im.ite (fun h => ?_) (fun h => ?_) | refine Im.sbind ?_)
    | ((conv => arg 3; whnf); first
      | ((with_reducible refine Im.fin ?_); exact zr) | ((with_reducible refine Im.anyo ?_ ?_); (next => kernel_rfl)) | ((with_reducible refine Im.bite_t ?_ ?_); (next => exact zq)) | ((with_reducible refine Im.bite_f ?_ ?_); (next => exact zq)) | ((with_reducible refine Im.bite_t ?_ ?_); (next => exact zd)) | ((with_reducible refine Im.must ?_ ?_); (next => exact zd)) | ((with_reducible refine Im.bite_f ?_ ?_); (next => exact zd)) | (with_reducible refine Im.byl ?_) | ((with_reducible refine Im.vget ByteArray.empty ?_ ?_ ?_); (next => exact zd); (next => exact zd)) | ((with_reducible refine Im.vget z45 ?_ ?_ ?_); (next => exact zd); (next => exact zd)) | ((with_reducible refine Im.vget (0 : Int) ?_ ?_ ?_); (next => exact zd); (next => exact zd)) | ((with_reducible refine Im.vget false ?_ ?_ ?_); (next => exact zd); (next => exact zd))
      | exact zm | exact zx | fail)
  all_goals skip
theorem laws_big.vi {m : Nat} {Gv : FuncId → Option (List VV → Option (VV × List VV))} (hG : Base Gv) (hm : 1 ≤ m) (l0 : List Int) : Im (fun r => (.bool r, [])) (laws_big.f l0) (callv Tryz.prog ti keep Gv m 4 [.sl (l0.map VV.byte)]) := by
  obtain ⟨m, rfl⟩ : ∃ m', m = m' + 1 := ⟨m - 1, by omega⟩
  rw [show callv Tryz.prog ti keep Gv (m + 1) 4 _ = _ from callv_enter ((hG 4 (by decide) (by decide) (by decide)).trans rfl) Tryz.func4 (by kernel_rfl) rfl rfl]
  unfold laws_big.f
  repeat' first
    | (with_reducible first | exact Im.none | refine Im.ite (fun h => ?_) (fun h => ?_) | refine Im.sbind ?_)
    | ((conv => arg 3; whnf); first
      | ((with_reducible refine Im.fin ?_); exact zr) | ((with_reducible refine Im.anyo ?_ ?_); (next => kernel_rfl)) | ((with_reducible refine Im.bite_t ?_ ?_); (next => exact zq)) | ((with_reducible refine Im.bite_f ?_ ?_); (next => exact zq)) | ((with_reducible refine Im.bite_t ?_ ?_); (next => exact zd)) | ((with_reducible refine Im.must ?_ ?_); (next => exact zd)) | ((with_reducible refine Im.bite_f ?_ ?_); (next => exact zd)) | (with_reducible refine Im.byl ?_) | ((with_reducible refine Im.vget ByteArray.empty ?_ ?_ ?_); (next => exact zd); (next => exact zd)) | ((with_reducible refine Im.vget z45 ?_ ?_ ?_); (next => exact zd); (next => exact zd)) | ((with_reducible refine Im.vget (0 : Int) ?_ ?_ ?_); (next => exact zd); (next => exact zd)) | ((with_reducible refine Im.vget false ?_ ?_ ?_); (next => exact zd); (next => exact zd))
      | exact zm | exact zx | fail)
  all_goals skip
theorem laws_has.vi {k m : Nat} {Gv : FuncId → Option (List VV → Option (VV × List VV))} (hG : Base Gv) (hm : k + 1 ≤ m) (l0 : List ByteArray) (a1 : ByteArray) : Im (fun r => (.bool r, [])) (laws_has.f k l0 a1) (callv Tryz.prog ti keep Gv m 13 [.sl (l0.map VV.str), .str a1]) := by
  obtain ⟨m, rfl⟩ : ∃ m', m = m' + 1 := ⟨m - 1, by omega⟩
  rw [show callv Tryz.prog ti keep Gv (m + 1) 13 _ = _ from callv_enter ((hG 13 (by decide) (by decide) (by decide)).trans rfl) Tryz.func13 (by kernel_rfl) rfl rfl]
  unfold laws_has.f
  repeat' first
    | (with_reducible first | exact Im.none | refine Im.ite (fun h => ?_) (fun h => ?_) | refine Im.sbind ?_)
    | ((conv => arg 3; whnf); first
      | ((with_reducible refine Im.fin ?_); exact zr) | ((with_reducible refine Im.anyo ?_ ?_); (next => kernel_rfl)) | ((with_reducible refine Im.bite_t ?_ ?_); (next => exact zq)) | ((with_reducible refine Im.bite_f ?_ ?_); (next => exact zq)) | ((with_reducible refine Im.bite_t ?_ ?_); (next => exact zd)) | ((with_reducible refine Im.must ?_ ?_); (next => exact zd)) | ((with_reducible refine Im.bite_f ?_ ?_); (next => exact zd)) | (with_reducible refine Im.byl ?_) | ((with_reducible refine Im.vget ByteArray.empty ?_ ?_ ?_); (next => exact zd); (next => exact zd)) | ((with_reducible refine Im.vget z45 ?_ ?_ ?_); (next => exact zd); (next => exact zd)) | ((with_reducible refine Im.vget (0 : Int) ?_ ?_ ?_); (next => exact zd); (next => exact zd)) | ((with_reducible refine Im.vget false ?_ ?_ ?_); (next => exact zd); (next => exact zd))
      | ((with_reducible refine Im.loop (S := fun s : List ByteArray × ByteArray × Int => [.sl (s.1.map VV.str), .str s.2.1, .un, .un, .un, .int s.2.2, .un, .un, .un, .un, .un, .un, .un, .un, .un, .un, .un, .un]) (L := fun k s => laws_has.l0 k s.1 s.2.1 s.2.2) _ ?_ ?_ _ _ ⟨_, _, _⟩ _ (Nat.le_refl _) zo ?_)
         (next => intro s; rfl)
         (next =>
           intro k1 M1 ⟨x0, x1, x5⟩ hk1 hM1 ih1
           conv => arg 2; simp only [laws_has.l0]
           repeat' first
             | (with_reducible first | exact Im.none | refine Im.ite (fun h => ?_) (fun h => ?_) | refine Im.sbind ?_)
             | ((conv => arg 3; whnf); first
               | ((with_reducible refine Im.fin ?_); exact zr) | ((with_reducible refine Im.anyo ?_ ?_); (next => kernel_rfl)) | ((with_reducible refine Im.bite_t ?_ ?_); (next => exact zq)) | ((with_reducible refine Im.bite_f ?_ ?_); (next => exact zq)) | ((with_reducible refine Im.bite_t ?_ ?_); (next => exact zd)) | ((with_reducible refine Im.must ?_ ?_); (next => exact zd)) | ((with_reducible refine Im.bite_f ?_ ?_); (next => exact zd)) | (with_reducible refine Im.byl ?_) | ((with_reducible refine Im.vget ByteArray.empty ?_ ?_ ?_); (next => exact zd); (next => exact zd)) | ((with_reducible refine Im.vget z45 ?_ ?_ ?_); (next => exact zd); (next => exact zd)) | ((with_reducible refine Im.vget (0 : Int) ?_ ?_ ?_); (next => exact zd); (next => exact zd)) | ((with_reducible refine Im.vget false ?_ ?_ ?_); (next => exact zd); (next => exact zd)) | ((with_reducible refine ih1 _ ⟨_, _, _⟩ _ ?_ ?_); (next => exact zo); exact zr)
               | exact zm | exact zx | fail)
           all_goals skip)
         exact zr)
      | exact zm | exact zx | fail)
  all_goals skip
theorem laws_sameTexts.vi {k m : Nat} {Gv : FuncId → Option (List VV → Option (VV × List VV))} (hG : Base Gv) (hm : k + 1 ≤ m) (l0 : List ByteArray) (l1 : List ByteArray) : Im (fun r => (.bool r, [])) (laws_sameTexts.f k l0 l1) (callv Tryz.prog ti keep Gv m 10 [.sl (l0.map VV.str), .sl (l1.map VV.str)]) := by
  obtain ⟨m, rfl⟩ : ∃ m', m = m' + 1 := ⟨m - 1, by omega⟩
  rw [show callv Tryz.prog ti keep Gv (m + 1) 10 _ = _ from callv_enter ((hG 10 (by decide) (by decide) (by decide)).trans rfl) Tryz.func10 (by kernel_rfl) rfl rfl]
  unfold laws_sameTexts.f
  repeat' first
    | (with_reducible first | exact Im.none | refine Im.ite (fun h => ?_) (fun h => ?_) | refine Im.sbind ?_)
    | ((conv => arg 3; whnf); first
      | ((with_reducible refine Im.fin ?_); exact zr) | ((with_reducible refine Im.anyo ?_ ?_); (next => kernel_rfl)) | ((with_reducible refine Im.bite_t ?_ ?_); (next => exact zq)) | ((with_reducible refine Im.bite_f ?_ ?_); (next => exact zq)) | ((with_reducible refine Im.bite_t ?_ ?_); (next => exact zd)) | ((with_reducible refine Im.must ?_ ?_); (next => exact zd)) | ((with_reducible refine Im.bite_f ?_ ?_); (next => exact zd)) | (with_reducible refine Im.byl ?_) | ((with_reducible refine Im.vget ByteArray.empty ?_ ?_ ?_); (next => exact zd); (next => exact zd)) | ((with_reducible refine Im.vget z45 ?_ ?_ ?_); (next => exact zd); (next => exact zd)) | ((with_reducible refine Im.vget (0 : Int) ?_ ?_ ?_); (next => exact zd); (next => exact zd)) | ((with_reducible refine Im.vget false ?_ ?_ ?_); (next => exact zd); (next => exact zd))
      | ((with_reducible refine Im.loop (S := fun s : List ByteArray × List ByteArray × Int => [.sl (s.1.map VV.str), .sl (s.2.1.map VV.str), .un, .un, .un, .int s.2.2, .un, .un, .un, .un, .un, .un, .un, .un, .un, .un, .un, .un, .un, .un, .un, .un, .un, .un, .un, .un]) (L := fun k s => laws_sameTexts.l0 k s.1 s.2.1 s.2.2) _ ?_ ?_ _ _ ⟨_, _, _⟩ _ (Nat.le_refl _) zo ?_)
         (next => intro s; rfl)
         (next =>
           intro k1 M1 ⟨x0, x1, x5⟩ hk1 hM1 ih1
           conv => arg 2; simp only [laws_sameTexts.l0]
           repeat' first
             | (with_reducible first | exact Im.none | refine Im.ite (fun h => ?_) (fun h => ?_) | refine Im.sbind ?_)
             | ((conv => arg 3; whnf); first
               | ((with_reducible refine Im.fin ?_); exact zr) | ((with_reducible refine Im.anyo ?_ ?_); (next => kernel_rfl)) | ((with_reducible refine Im.bite_t ?_ ?_); (next => exact zq)) | ((with_reducible refine Im.bite_f ?_ ?_); (next => exact zq)) | ((with_reducible refine Im.bite_t ?_ ?_); (next => exact zd)) | ((with_reducible refine Im.must ?_ ?_); (next => exact zd)) | ((with_reducible refine Im.bite_f ?_ ?_); (next => exact zd)) | (with_reducible refine Im.byl ?_) | ((with_reducible refine Im.vget ByteArray.empty ?_ ?_ ?_); (next => exact zd); (next => exact zd)) | ((with_reducible refine Im.vget z45 ?_ ?_ ?_); (next => exact zd); (next => exact zd)) | ((with_reducible refine Im.vget (0 : Int) ?_ ?_ ?_); (next => exact zd); (next => exact zd)) | ((with_reducible refine Im.vget false ?_ ?_ ?_); (next => exact zd); (next => exact zd)) | ((with_reducible refine ih1 _ ⟨_, _, _⟩ _ ?_ ?_); (next => exact zo); exact zr)
               | exact zm | exact zx | fail)
           all_goals skip)
         exact zr)
      | exact zm | exact zx | fail)
  all_goals skip
theorem spec_SortVersions.vi {k m : Nat} {Gv : FuncId → Option (List VV → Option (VV × List VV))} (hG : Base Gv) (hm : k + 7 ≤ m) (l0 : List ByteArray) : Im (fun r => (.ow 9 1 (r.map VV.str), [])) (spec_SortVersions.f k l0) (callv Tryz.prog ti keep Gv m 20 [.sl (l0.map VV.str)]) := by
  obtain ⟨m, rfl⟩ : ∃ m', m = m' + 1 := ⟨m - 1, by omega⟩
  rw [show callv Tryz.prog ti keep Gv (m + 1) 20 _ = _ from callv_enter ((hG 20 (by decide) (by decide) (by decide)).trans rfl) Tryz.func20 (by kernel_rfl) rfl rfl]
  unfold spec_SortVersions.f
  repeat' first
    | (with_reducible first | exact Im.none | refine Im.ite (fun h => ?_) (fun h => ?_) | refine Im.sbind ?_)
    | ((conv => arg 3; whnf); first
      | ((with_reducible refine Im.fin ?_); exact zr) | ((with_reducible refine Im.anyo ?_ ?_); (next => kernel_rfl)) | ((with_reducible refine Im.bite_t ?_ ?_); (next => exact zq)) | ((with_reducible refine Im.bite_f ?_ ?_); (next => exact zq)) | ((with_reducible refine Im.bite_t ?_ ?_); (next => exact zd)) | ((with_reducible refine Im.must ?_ ?_); (next => exact zd)) | ((with_reducible refine Im.bite_f ?_ ?_); (next => exact zd)) | (with_reducible refine Im.byl ?_) | ((with_reducible refine Im.vget ByteArray.empty ?_ ?_ ?_); (next => exact zd); (next => exact zd)) | ((with_reducible refine Im.vget z45 ?_ ?_ ?_); (next => exact zd); (next => exact zd)) | ((with_reducible refine Im.vget (0 : Int) ?_ ?_ ?_); (next => exact zd); (next => exact zd)) | ((with_reducible refine Im.vget false ?_ ?_ ?_); (next => exact zd); (next => exact zd)) | ((with_reducible refine Im.call (spec_CompareVersion.vi hG ?_ _ _ _ _ _ _ _ _) ?_ (fun r hr => ?_)); (next => omega); (next => exact zr)) | ((with_reducible refine Im.call (spec_ReadVersion.vi hG ?_ _) ?_ (fun r hr => ?_)); (next => omega); (next => exact zr))
      | ((with_reducible refine Im.loop (S := fun s : List ByteArray × List ByteArray × Int => [.sl (s.1.map VV.str), .un, .un, .ow 9 1 (s.2.1.map VV.str), .int s.2.2, .un, .un, .un, .un, .un, .un, .un, .un, .un, .un, .un, .un, .un, .un, .un, .un, .un, .un, .un, .un, .un, .un, .un, .un, .un, .un, .un, .un, .un, .un, .un, .un, .un, .un, .un, .un, .un, .un, .un, .un, .un, .un, .un, .un, .un, .un, .un, .un, .un, .un, .un, .un, .un, .un, .un, .un, .un, .un, .un, .un, .un, .un, .un, .un, .un, .un, .un, .un, .un, .un, .un]) (L := fun k s => spec_SortVersions.l0 k s.1 s.2.1 s.2.2) _ ?_ ?_ _ _ ⟨_, _, _⟩ _ (Nat.le_refl _) zo ?_)
         (next => intro s; rfl)
         (next =>
           intro k1 M1 ⟨x0, x3, x4⟩ hk1 hM1 ih1
           conv => arg 2; simp only [spec_SortVersions.l0]
           repeat' first
             | (with_reducible first | exact Im.none | refine Im.ite (fun h => ?_) (fun h => ?_) | refine Im.sbind ?_)
             | ((conv => arg 3; whnf); first
               | ((with_reducible refine Im.fin ?_); exact zr) | ((with_reducible refine Im.anyo ?_ ?_); (next => kernel_rfl)) | ((with_reducible refine Im.bite_t ?_ ?_); (next => exact zq)) | ((with_reducible refine Im.bite_f ?_ ?_); (next => exact zq)) | ((with_reducible refine Im.bite_t ?_ ?_); (next => exact zd)) | ((with_reducible refine Im.must ?_ ?_); (next => exact zd)) | ((with_reducible refine Im.bite_f ?_ ?_); (next => exact zd)) | (with_reducible refine Im.byl ?_) | ((with_reducible refine Im.vget ByteArray.empty ?_ ?_ ?_); (next => exact zd); (next => exact zd)) | ((with_reducible refine Im.vget z45 ?_ ?_ ?_); (next => exact zd); (next => exact zd)) | ((with_reducible refine Im.vget (0 : Int) ?_ ?_ ?_); (next => exact zd); (next => exact zd)) | ((with_reducible refine Im.vget false ?_ ?_ ?_); (next => exact zd); (next => exact zd)) | ((with_reducible refine Im.call (spec_CompareVersion.vi hG ?_ _ _ _ _ _ _ _ _) ?_ (fun r hr => ?_)); (next => omega); (next => exact zr)) | ((with_reducible refine Im.call (spec_ReadVersion.vi hG ?_ _) ?_ (fun r hr => ?_)); (next => omega); (next => exact zr)) | ((with_reducible refine ih1 _ ⟨_, _, _⟩ _ ?_ ?_); (next => exact zo); exact zr)
               | ((with_reducible refine Im.loop (S := fun s : List ByteArray × List ByteArray × Int × Int × Int × Int × Int × List ByteArray => [.sl (s.1.map VV.str), .un, .un, .ow 9 1 (s.2.1.map VV.str), .int s.2.2.1, .bx [.int s.2.2.2.2.1, .int s.2.2.2.2.2.1, .int s.2.2.2.2.2.2.1, .sl (s.2.2.2.2.2.2.2.map VV.str)], .un, .int s.2.2.2.1, .un, .un, .un, .un, .un, .un, .un, .un, .un, .un, .un, .un, .un, .un, .un, .un, .un, .un, .un, .un, .un, .un, .un, .un, .un, .un, .un, .un, .un, .un, .un, .un, .un, .un, .un, .un, .un, .un, .un, .un, .un, .un, .un, .un, .un, .un, .un, .un, .un, .un, .un, .un, .un, .un, .un, .un, .un, .un, .un, .un, .un, .un, .un, .un, .un, .un, .un, .un]) (L := fun k s => spec_SortVersions.l1 k s.1 s.2.1 s.2.2.1 s.2.2.2.1 s.2.2.2.2.1 s.2.2.2.2.2.1 s.2.2.2.2.2.2.1 s.2.2.2.2.2.2.2) _ ?_ ?_ _ _ ⟨_, _, _, _, _, _, _, _⟩ _ (Nat.le_refl _) zo ?_)
                  (next => intro s; rfl)
                  (next =>
                    intro k2 M2 ⟨x0, x3, x4, x7, x900000, x900001, x900002, x900003⟩ hk2 hM2 ih2
                    conv => arg 2; simp only [spec_SortVersions.l1]
                    repeat' first
                      | ((with_reducible refine Im.nat (fun k => spec_SortVersions.j1 k _ _ _ _) _ ?_ (fun kj hkj => ?_)); (next => rfl); (conv => arg 2; simp only [spec_SortVersions.j1, Bool.false_eq_true, reduceIte])) | (with_reducible first | exact Im.none | refine Im.ite (fun h => ?_) (fun h => ?_) | refine Im.sbind ?_)
                      | ((conv => arg 3; whnf); first
                        | ((with_reducible refine Im.fin ?_); exact zr) | ((with_reducible refine Im.anyo ?_ ?_); (next => kernel_rfl)) | ((with_reducible refine Im.bite_t ?_ ?_); (next => exact zq)) | ((with_reducible refine Im.bite_f ?_ ?_); (next => exact zq)) | ((with_reducible refine Im.bite_t ?_ ?_); (next => exact zd)) | ((with_reducible refine Im.must ?_ ?_); (next => exact zd)) | ((with_reducible refine Im.bite_f ?_ ?_); (next => exact zd)) | (with_reducible refine Im.byl ?_) | ((with_reducible refine Im.vget ByteArray.empty ?_ ?_ ?_); (next => exact zd); (next => exact zd)) | ((with_reducible refine Im.vget z45 ?_ ?_ ?_); (next => exact zd); (next => exact zd)) | ((with_reducible refine Im.vget (0 : Int) ?_ ?_ ?_); (next => exact zd); (next => exact zd)) | ((with_reducible refine Im.vget false ?_ ?_ ?_); (next => exact zd); (next => exact zd)) | ((with_reducible refine Im.call (spec_CompareVersion.vi hG ?_ _ _ _ _ _ _ _ _) ?_ (fun r hr => ?_)); (next => omega); (next => exact zr)) | ((with_reducible refine Im.call (spec_ReadVersion.vi hG ?_ _) ?_ (fun r hr => ?_)); (next => omega); (next => exact zr)) | ((with_reducible refine ih1 _ ⟨_, _, _⟩ _ ?_ ?_); (next => exact zo); exact zr) | ((with_reducible refine ih2 _ ⟨_, _, _, _, _, _, _, _⟩ _ ?_ ?_); (next => exact zo); exact zr)
                        | exact zm | exact zx | fail)
                    all_goals skip)
                  exact zr)
               | exact zm | exact zx | fail)
           all_goals skip)
         exact zr)
      | exact zm | exact zx | fail)
  all_goals skip
end Go.Proofs.YtoidompkofomjaaGreatDoor.VI

end
section
namespace Go.Proofs.YtoidompkofomjaaGreatDoor.VI
open Go Go.RowKit Go.Proofs.YtoidompkofomjaaGreatDoor.G Go.Proofs.YtoidompkofomjaaGreatDoorW.PrintWords
set_option maxRecDepth 100000
set_option maxHeartbeats 16000000
theorem impl_ReadDec.vi {m : Nat} {Gv : FuncId → Option (List VV → Option (VV × List VV))} (hG : Base Gv) (hm : 1 ≤ m) (a0 : ByteArray) : Im (fun r => (.int r, [])) (impl_ReadDec.f a0) (callv Tryz.prog ti keep Gv m 26 [.str a0]) := by
  obtain ⟨m, rfl⟩ : ∃ m', m = m' + 1 := ⟨m - 1, by omega⟩
  rw [show callv Tryz.prog ti keep Gv (m + 1) 26 _ = _ from callv_given ((hG 26 (by decide) (by decide) (by decide)).trans rfl)]
  intro r h
  rw [show impl_ReadDec.gv [.str a0] = (impl_ReadDec.f a0).map (fun r => (.int r, [])) from rfl, h]
  rfl
theorem strconv_Itoa.vi {m : Nat} {Gv : FuncId → Option (List VV → Option (VV × List VV))} (hG : Base Gv) (hm : 1 ≤ m) (a0 : Int) : Im (fun r => (.str r, [])) (strconv_Itoa.f a0) (callv Tryz.prog ti keep Gv m 74 [.int a0]) := by
  obtain ⟨m, rfl⟩ : ∃ m', m = m' + 1 := ⟨m - 1, by omega⟩
  rw [show callv Tryz.prog ti keep Gv (m + 1) 74 _ = _ from callv_given ((hG 74 (by decide) (by decide) (by decide)).trans rfl)]
  intro r h
  rw [show strconv_Itoa.gv [.int a0] = (strconv_Itoa.f a0).map (fun r => (.str r, [])) from rfl, h]
  rfl
theorem strings_Join.vi {m : Nat} {Gv : FuncId → Option (List VV → Option (VV × List VV))} (hG : Base Gv) (hm : 1 ≤ m) (l0 : List ByteArray) (a1 : ByteArray) : Im (fun r => (.str r, [])) (strings_Join.f l0 a1) (callv Tryz.prog ti keep Gv m 50 [.sl (l0.map VV.str), .str a1]) := by
  obtain ⟨m, rfl⟩ : ∃ m', m = m' + 1 := ⟨m - 1, by omega⟩
  rw [show callv Tryz.prog ti keep Gv (m + 1) 50 _ = _ from callv_given ((hG 50 (by decide) (by decide) (by decide)).trans rfl)]
  intro r h
  show obind (unS (l0.map VV.str)) _ = _
  rw [unS_map]
  show (strings_Join.f l0 a1).map _ = _
  rw [h]
  rfl
theorem strings_Cut.vi {m : Nat} {Gv : FuncId → Option (List VV → Option (VV × List VV))} (hG : Base Gv) (hm : 1 ≤ m) (a0 : ByteArray) (a1 : ByteArray) : Im (fun r => (.tu [.str r.1, .str r.2.1, .bool r.2.2], [])) (strings_Cut.f a0 a1) (callv Tryz.prog ti keep Gv m 24 [.str a0, .str a1]) := by
  obtain ⟨m, rfl⟩ : ∃ m', m = m' + 1 := ⟨m - 1, by omega⟩
  rw [show callv Tryz.prog ti keep Gv (m + 1) 24 _ = _ from callv_given ((hG 24 (by decide) (by decide) (by decide)).trans rfl)]
  intro r h
  rw [show strings_Cut.gv [.str a0, .str a1] = (strings_Cut.f a0 a1).map (fun r => (.tu [.str r.1, .str r.2.1, .bool r.2.2], [])) from rfl, h]
  rfl
theorem strings_Split.vi {m : Nat} {Gv : FuncId → Option (List VV → Option (VV × List VV))} (hG : Base Gv) (hm : 1 ≤ m) (a0 : ByteArray) (a1 : ByteArray) : Im (fun r => (.ow 9 1 (r.map VV.str), [])) (strings_Split.f a0 a1) (callv Tryz.prog ti keep Gv m 25 [.str a0, .str a1]) := by
  obtain ⟨m, rfl⟩ : ∃ m', m = m' + 1 := ⟨m - 1, by omega⟩
  rw [show callv Tryz.prog ti keep Gv (m + 1) 25 _ = _ from callv_given ((hG 25 (by decide) (by decide) (by decide)).trans rfl)]
  intro r h
  rw [show strings_Split.gv [.str a0, .str a1] = (strings_Split.f a0 a1).map (fun r => (.ow 9 1 (r.map VV.str), [])) from rfl, h]
  rfl
theorem strings_Compare.vi {m : Nat} {Gv : FuncId → Option (List VV → Option (VV × List VV))} (hG : Base Gv) (hm : 1 ≤ m) (a0 : ByteArray) (a1 : ByteArray) : Im (fun r => (.int r, [])) (strings_Compare.f a0 a1) (callv Tryz.prog ti keep Gv m 53 [.str a0, .str a1]) := by
  obtain ⟨m, rfl⟩ : ∃ m', m = m' + 1 := ⟨m - 1, by omega⟩
  rw [show callv Tryz.prog ti keep Gv (m + 1) 53 _ = _ from callv_given ((hG 53 (by decide) (by decide) (by decide)).trans rfl)]
  intro r h
  rw [show strings_Compare.gv [.str a0, .str a1] = (strings_Compare.f a0 a1).map (fun r => (.int r, [])) from rfl, h]
  rfl
theorem strings_TrimLeft.vi {m : Nat} {Gv : FuncId → Option (List VV → Option (VV × List VV))} (hG : Base Gv) (hm : 1 ≤ m) (a0 : ByteArray) (a1 : ByteArray) : Im (fun r => (.str r, [])) (strings_TrimLeft.f a0 a1) (callv Tryz.prog ti keep Gv m 52 [.str a0, .str a1]) := by
  obtain ⟨m, rfl⟩ : ∃ m', m = m' + 1 := ⟨m - 1, by omega⟩
  rw [show callv Tryz.prog ti keep Gv (m + 1) 52 _ = _ from callv_given ((hG 52 (by decide) (by decide) (by decide)).trans rfl)]
  intro r h
  rw [show strings_TrimLeft.gv [.str a0, .str a1] = (strings_TrimLeft.f a0 a1).map (fun r => (.str r, [])) from rfl, h]
  rfl
end Go.Proofs.YtoidompkofomjaaGreatDoor.VI

end
section
namespace Go.Proofs.YtoidompkofomjaaGreatDoor.VI
open Go Go.RowKit Go.Proofs.YtoidompkofomjaaGreatDoor.G Go.Proofs.YtoidompkofomjaaGreatDoorW.PrintWords
set_option maxRecDepth 100000
set_option maxHeartbeats 16000000
attribute [local irreducible] bite obind vget
theorem impl_DecText.vi {m : Nat} {Gv : FuncId → Option (List VV → Option (VV × List VV))} (hG : Base Gv) (hm : 2 ≤ m) (a0 : Int) : Im (fun r => (.str r, [])) (impl_DecText.f a0) (callv Tryz.prog ti keep Gv m 48 [.int a0]) := by
  obtain ⟨m, rfl⟩ : ∃ m', m = m' + 1 := ⟨m - 1, by omega⟩
  rw [show callv Tryz.prog ti keep Gv (m + 1) 48 _ = _ from callv_enter ((hG 48 (by decide) (by decide) (by decide)).trans rfl) Tryz.func48 (by kernel_rfl) rfl rfl]
  unfold impl_DecText.f
  repeat' first
    | (with_reducible first | exact Im.none | refine Im.ite (fun h => ?_) (fun h => ?_) | refine Im.sbind ?_)
    | ((conv => arg 3; whnf); first
      | ((with_reducible refine Im.fin ?_); exact zr) | ((with_reducible refine Im.anyo ?_ ?_); (next => kernel_rfl)) | ((with_reducible refine Im.bite_t ?_ ?_); (next => exact zq)) | ((with_reducible refine Im.bite_f ?_ ?_); (next => exact zq)) | ((with_reducible refine Im.bite_t ?_ ?_); (next => exact zd)) | ((with_reducible refine Im.must ?_ ?_); (next => exact zd)) | ((with_reducible refine Im.bite_f ?_ ?_); (next => exact zd)) | (with_reducible refine Im.byl ?_) | ((with_reducible refine Im.vget ByteArray.empty ?_ ?_ ?_); (next => exact zd); (next => exact zd)) | ((with_reducible refine Im.vget z45 ?_ ?_ ?_); (next => exact zd); (next => exact zd)) | ((with_reducible refine Im.vget (0 : Int) ?_ ?_ ?_); (next => exact zd); (next => exact zd)) | ((with_reducible refine Im.vget false ?_ ?_ ?_); (next => exact zd); (next => exact zd)) | ((with_reducible refine Im.call (strconv_Itoa.vi hG ?_ _) ?_ (fun r hr => ?_)); (next => omega); (next => exact zr))
      | exact zm | exact zx | fail)
  all_goals skip
theorem impl_VersionOk.vi {k m : Nat} {Gv : FuncId → Option (List VV → Option (VV × List VV))} (hG : Base Gv) (hm : k + 5 ≤ m) (a0_0 : Int) (a0_1 : Int) (a0_2 : Int) (l0_3 : List ByteArray) : Im (fun r => (.bool r, [])) (impl_VersionOk.f k a0_0 a0_1 a0_2 l0_3) (callv Tryz.prog ti keep Gv m 49 [.ag [.int a0_0, .int a0_1, .int a0_2, .sl (l0_3.map VV.str)]]) := by
  obtain ⟨m, rfl⟩ : ∃ m', m = m' + 1 := ⟨m - 1, by omega⟩
  rw [show callv Tryz.prog ti keep Gv (m + 1) 49 _ = _ from callv_enter ((hG 49 (by decide) (by decide) (by decide)).trans rfl) Tryz.func49 (by kernel_rfl) rfl rfl]
  unfold impl_VersionOk.f
  repeat' first
    | (with_reducible first | exact Im.none | refine Im.ite (fun h => ?_) (fun h => ?_) | refine Im.sbind ?_)
    | ((conv => arg 3; whnf); first
      | ((with_reducible refine Im.fin ?_); exact zr) | ((with_reducible refine Im.anyo ?_ ?_); (next => kernel_rfl)) | ((with_reducible refine Im.bite_t ?_ ?_); (next => exact zq)) | ((with_reducible refine Im.bite_f ?_ ?_); (next => exact zq)) | ((with_reducible refine Im.bite_t ?_ ?_); (next => exact zd)) | ((with_reducible refine Im.must ?_ ?_); (next => exact zd)) | ((with_reducible refine Im.bite_f ?_ ?_); (next => exact zd)) | (with_reducible refine Im.byl ?_) | ((with_reducible refine Im.vget ByteArray.empty ?_ ?_ ?_); (next => exact zd); (next => exact zd)) | ((with_reducible refine Im.vget z45 ?_ ?_ ?_); (next => exact zd); (next => exact zd)) | ((with_reducible refine Im.vget (0 : Int) ?_ ?_ ?_); (next => exact zd); (next => exact zd)) | ((with_reducible refine Im.vget false ?_ ?_ ?_); (next => exact zd); (next => exact zd)) | ((with_reducible refine Im.call (impl_ReadDec.vi hG ?_ _) ?_ (fun r hr => ?_)); (next => omega); (next => exact zr)) | ((with_reducible refine Im.call (impl_all__impl_VersionOk_1.vi hG ?_ _) ?_ (fun r hr => ?_)); (next => omega); (next => exact zr)) | ((with_reducible refine Im.call (impl_isNumber.vi hG ?_ _) ?_ (fun r hr => ?_)); (next => omega); (next => exact zr)) | ((with_reducible refine Im.call (impl_within.vi hG ?_ _ _ _) ?_ (fun r hr => ?_)); (next => omega); (next => exact zr))
      | ((with_reducible refine Im.loop (S := fun s : List Int × Int × Int × Int × Int × Int × List ByteArray => [.un, .bx [.int s.2.2.2.1, .int s.2.2.2.2.1, .int s.2.2.2.2.2.1, .sl (s.2.2.2.2.2.2.map VV.str)], .un, .un, .un, .un, .un, .un, .un, .un, .un, .un, .un, .ow 3 1 (s.1.map VV.int), .int s.2.1, .int s.2.2.1, .un, .un, .un, .un, .un, .un, .un, .un, .un, .un, .un, .un, .un, .un, .un, .un, .un, .un, .un, .un, .un, .un, .un, .un, .un, .un, .un, .un, .un, .un, .un, .un, .un, .un, .un, .un, .un]) (L := fun k s => impl_VersionOk.l0 k s.1 s.2.1 s.2.2.1 s.2.2.2.1 s.2.2.2.2.1 s.2.2.2.2.2.1 s.2.2.2.2.2.2) _ ?_ ?_ _ _ ⟨_, _, _, _, _, _, _⟩ _ (Nat.le_refl _) zo ?_)
         (next => intro s; rfl)
         (next =>
           intro k1 M1 ⟨x13, x14, x15, x543000, x543001, x543002, x543003⟩ hk1 hM1 ih1
           conv => arg 2; simp only [impl_VersionOk.l0]
           repeat' first
             | (with_reducible first | exact Im.none | refine Im.ite (fun h => ?_) (fun h => ?_) | refine Im.sbind ?_)
             | ((conv => arg 3; whnf); first
               | ((with_reducible refine Im.fin ?_); exact zr) | ((with_reducible refine Im.anyo ?_ ?_); (next => kernel_rfl)) | ((with_reducible refine Im.bite_t ?_ ?_); (next => exact zq)) | ((with_reducible refine Im.bite_f ?_ ?_); (next => exact zq)) | ((with_reducible refine Im.bite_t ?_ ?_); (next => exact zd)) | ((with_reducible refine Im.must ?_ ?_); (next => exact zd)) | ((with_reducible refine Im.bite_f ?_ ?_); (next => exact zd)) | (with_reducible refine Im.byl ?_) | ((with_reducible refine Im.vget ByteArray.empty ?_ ?_ ?_); (next => exact zd); (next => exact zd)) | ((with_reducible refine Im.vget z45 ?_ ?_ ?_); (next => exact zd); (next => exact zd)) | ((with_reducible refine Im.vget (0 : Int) ?_ ?_ ?_); (next => exact zd); (next => exact zd)) | ((with_reducible refine Im.vget false ?_ ?_ ?_); (next => exact zd); (next => exact zd)) | ((with_reducible refine Im.call (impl_ReadDec.vi hG ?_ _) ?_ (fun r hr => ?_)); (next => omega); (next => exact zr)) | ((with_reducible refine Im.call (impl_all__impl_VersionOk_1.vi hG ?_ _) ?_ (fun r hr => ?_)); (next => omega); (next => exact zr)) | ((with_reducible refine Im.call (impl_isNumber.vi hG ?_ _) ?_ (fun r hr => ?_)); (next => omega); (next => exact zr)) | ((with_reducible refine Im.call (impl_within.vi hG ?_ _ _ _) ?_ (fun r hr => ?_)); (next => omega); (next => exact zr)) | ((with_reducible refine ih1 _ ⟨_, _, _, _, _, _, _⟩ _ ?_ ?_); (next => exact zo); exact zr)
               | ((with_reducible refine Im.loop (S := fun s : List ByteArray × Int × Int × Int × Int × Int × List ByteArray => [.un, .bx [.int s.2.2.2.1, .int s.2.2.2.2.1, .int s.2.2.2.2.2.1, .sl (s.2.2.2.2.2.2.map VV.str)], .un, .un, .un, .un, .un, .un, .un, .un, .un, .un, .un, .un, .un, .un, .un, .un, .un, .un, .un, .un, .un, .un, .sl (s.1.map VV.str), .int s.2.1, .int s.2.2.1, .un, .un, .un, .un, .un, .un, .un, .un, .un, .un, .un, .un, .un, .un, .un, .un, .un, .un, .un, .un, .un, .un, .un, .un, .un, .un]) (L := fun k s => impl_VersionOk.l1 k s.1 s.2.1 s.2.2.1 s.2.2.2.1 s.2.2.2.2.1 s.2.2.2.2.2.1 s.2.2.2.2.2.2) _ ?_ ?_ _ _ ⟨_, _, _, _, _, _, _⟩ _ (Nat.le_refl _) zo ?_)
                  (next => intro s; rfl)
                  (next =>
                    intro k2 M2 ⟨x24, x25, x26, x543000, x543001, x543002, x543003⟩ hk2 hM2 ih2
                    conv => arg 2; simp only [impl_VersionOk.l1]
                    repeat' first
                      | (with_reducible first | exact Im.none | refine Im.ite (fun h => ?_) (fun h => ?_) | refine Im.sbind ?_)
                      | ((conv => arg 3; whnf); first
                        | ((with_reducible refine Im.fin ?_); exact zr) | ((with_reducible refine Im.anyo ?_ ?_); (next => kernel_rfl)) | ((with_reducible refine Im.bite_t ?_ ?_); (next => exact zq)) | ((with_reducible refine Im.bite_f ?_ ?_); (next => exact zq)) | ((with_reducible refine Im.bite_t ?_ ?_); (next => exact zd)) | ((with_reducible refine Im.must ?_ ?_); (next => exact zd)) | ((with_reducible refine Im.bite_f ?_ ?_); (next => exact zd)) | (with_reducible refine Im.byl ?_) | ((with_reducible refine Im.vget ByteArray.empty ?_ ?_ ?_); (next => exact zd); (next => exact zd)) | ((with_reducible refine Im.vget z45 ?_ ?_ ?_); (next => exact zd); (next => exact zd)) | ((with_reducible refine Im.vget (0 : Int) ?_ ?_ ?_); (next => exact zd); (next => exact zd)) | ((with_reducible refine Im.vget false ?_ ?_ ?_); (next => exact zd); (next => exact zd)) | ((with_reducible refine Im.call (impl_ReadDec.vi hG ?_ _) ?_ (fun r hr => ?_)); (next => omega); (next => exact zr)) | ((with_reducible refine Im.call (impl_all__impl_VersionOk_1.vi hG ?_ _) ?_ (fun r hr => ?_)); (next => omega); (next => exact zr)) | ((with_reducible refine Im.call (impl_isNumber.vi hG ?_ _) ?_ (fun r hr => ?_)); (next => omega); (next => exact zr)) | ((with_reducible refine Im.call (impl_within.vi hG ?_ _ _ _) ?_ (fun r hr => ?_)); (next => omega); (next => exact zr)) | ((with_reducible refine ih2 _ ⟨_, _, _, _, _, _, _⟩ _ ?_ ?_); (next => exact zo); exact zr)
                        | exact zm | exact zx | fail)
                    all_goals skip)
                  exact zr)
               | exact zm | exact zx | fail)
           all_goals skip)
         exact zr)
      | exact zm | exact zx | fail)
  all_goals skip
theorem impl_VersionText.vi {k m : Nat} {Gv : FuncId → Option (List VV → Option (VV × List VV))} (hG : Base Gv) (hm : k + 6 ≤ m) (a0_0 : Int) (a0_1 : Int) (a0_2 : Int) (l0_3 : List ByteArray) : Im (fun r => (.str r, [])) (impl_VersionText.f k a0_0 a0_1 a0_2 l0_3) (callv Tryz.prog ti keep Gv m 27 [.ag [.int a0_0, .int a0_1, .int a0_2, .sl (l0_3.map VV.str)]]) := by
  obtain ⟨m, rfl⟩ : ∃ m', m = m' + 1 := ⟨m - 1, by omega⟩
  rw [show callv Tryz.prog ti keep Gv (m + 1) 27 _ = _ from callv_enter ((hG 27 (by decide) (by decide) (by decide)).trans rfl) Tryz.func27 (by kernel_rfl) rfl rfl]
  unfold impl_VersionText.f
  repeat' first
    | (with_reducible first | exact Im.none | refine Im.ite (fun h => ?_) (fun h => ?_) | refine Im.sbind ?_)
    | ((conv => arg 3; whnf); first
      | ((with_reducible refine Im.fin ?_); exact zr) | ((with_reducible refine Im.anyo ?_ ?_); (next => kernel_rfl)) | ((with_reducible refine Im.bite_t ?_ ?_); (next => exact zq)) | ((with_reducible refine Im.bite_f ?_ ?_); (next => exact zq)) | ((with_reducible refine Im.bite_t ?_ ?_); (next => exact zd)) | ((with_reducible refine Im.must ?_ ?_); (next => exact zd)) | ((with_reducible refine Im.bite_f ?_ ?_); (next => exact zd)) | (with_reducible refine Im.byl ?_) | ((with_reducible refine Im.vget ByteArray.empty ?_ ?_ ?_); (next => exact zd); (next => exact zd)) | ((with_reducible refine Im.vget z45 ?_ ?_ ?_); (next => exact zd); (next => exact zd)) | ((with_reducible refine Im.vget (0 : Int) ?_ ?_ ?_); (next => exact zd); (next => exact zd)) | ((with_reducible refine Im.vget false ?_ ?_ ?_); (next => exact zd); (next => exact zd)) | ((with_reducible refine Im.call (impl_DecText.vi hG ?_ _) ?_ (fun r hr => ?_)); (next => omega); (next => exact zr)) | ((with_reducible refine Im.call (impl_VersionOk.vi hG ?_ _ _ _ _) ?_ (fun r hr => ?_)); (next => omega); (next => exact zr)) | ((with_reducible refine Im.call (strings_Join.vi hG ?_ _ _) ?_ (fun r hr => ?_)); (next => omega); (next => exact zr))
      | exact zm | exact zx | fail)
  all_goals skip
theorem impl_ReadVersion.vi {k m : Nat} {Gv : FuncId → Option (List VV → Option (VV × List VV))} (hG : Base Gv) (hm : k + 7 ≤ m) (a0 : ByteArray) : Im (fun r => (.tu [.ag [.int r.1, .int r.2.1, .int r.2.2.1, .sl (r.2.2.2.1.map VV.str)], .bool r.2.2.2.2], [])) (impl_ReadVersion.f k a0) (callv Tryz.prog ti keep Gv m 14 [.str a0]) := by
  obtain ⟨m, rfl⟩ : ∃ m', m = m' + 1 := ⟨m - 1, by omega⟩
  rw [show callv Tryz.prog ti keep Gv (m + 1) 14 _ = _ from callv_enter ((hG 14 (by decide) (by decide) (by decide)).trans rfl) Tryz.func14 (by kernel_rfl) rfl rfl]
  unfold impl_ReadVersion.f
  repeat' first
    | (with_reducible first | exact Im.none | refine Im.ite (fun h => ?_) (fun h => ?_) | refine Im.sbind ?_)
    | ((conv => arg 3; whnf); first
      | ((with_reducible refine Im.fin ?_); exact zr) | ((with_reducible refine Im.anyo ?_ ?_); (next => kernel_rfl)) | ((with_reducible refine Im.bite_t ?_ ?_); (next => exact zq)) | ((with_reducible refine Im.bite_f ?_ ?_); (next => exact zq)) | ((with_reducible refine Im.bite_t ?_ ?_); (next => exact zd)) | ((with_reducible refine Im.must ?_ ?_); (next => exact zd)) | ((with_reducible refine Im.bite_f ?_ ?_); (next => exact zd)) | (with_reducible refine Im.byl ?_) | ((with_reducible refine Im.vget ByteArray.empty ?_ ?_ ?_); (next => exact zd); (next => exact zd)) | ((with_reducible refine Im.vget z45 ?_ ?_ ?_); (next => exact zd); (next => exact zd)) | ((with_reducible refine Im.vget (0 : Int) ?_ ?_ ?_); (next => exact zd); (next => exact zd)) | ((with_reducible refine Im.vget false ?_ ?_ ?_); (next => exact zd); (next => exact zd)) | ((with_reducible refine Im.call (impl_ReadDec.vi hG ?_ _) ?_ (fun r hr => ?_)); (next => omega); (next => exact zr)) | ((with_reducible refine Im.call (impl_VersionText.vi hG ?_ _ _ _ _) ?_ (fun r hr => ?_)); (next => omega); (next => exact zr)) | ((with_reducible refine Im.call (strings_Cut.vi hG ?_ _ _) ?_ (fun r hr => ?_)); (next => omega); (next => exact zr)) | ((with_reducible refine Im.call (strings_Split.vi hG ?_ _ _) ?_ (fun r hr => ?_)); (next => omega); (next => exact zr))
      | exact zm | exact zx | fail)
  all_goals skip
theorem impl_isVersion.vi {k m : Nat} {Gv : FuncId → Option (List VV → Option (VV × List VV))} (hG : Base Gv) (hm : k + 8 ≤ m) (a0 : ByteArray) : Im (fun r => (.bool r, [])) (impl_isVersion.f k a0) (callv Tryz.prog ti keep Gv m 37 [.str a0]) := by
  obtain ⟨m, rfl⟩ : ∃ m', m = m' + 1 := ⟨m - 1, by omega⟩
  rw [show callv Tryz.prog ti keep Gv (m + 1) 37 _ = _ from callv_enter ((hG 37 (by decide) (by decide) (by decide)).trans rfl) Tryz.func37 (by kernel_rfl) rfl rfl]
  unfold impl_isVersion.f
  repeat' first
    | (with_reducible first | exact Im.none | refine Im.ite (fun h => ?_) (fun h => ?_) | refine Im.sbind ?_)
    | ((conv => arg 3; whnf); first
      | ((with_reducible refine Im.fin ?_); exact zr) | ((with_reducible refine Im.anyo ?_ ?_); (next => kernel_rfl)) | ((with_reducible refine Im.bite_t ?_ ?_); (next => exact zq)) | ((with_reducible refine Im.bite_f ?_ ?_); (next => exact zq)) | ((with_reducible refine Im.bite_t ?_ ?_); (next => exact zd)) | ((with_reducible refine Im.must ?_ ?_); (next => exact zd)) | ((with_reducible refine Im.bite_f ?_ ?_); (next => exact zd)) | (with_reducible refine Im.byl ?_) | ((with_reducible refine Im.vget ByteArray.empty ?_ ?_ ?_); (next => exact zd); (next => exact zd)) | ((with_reducible refine Im.vget z45 ?_ ?_ ?_); (next => exact zd); (next => exact zd)) | ((with_reducible refine Im.vget (0 : Int) ?_ ?_ ?_); (next => exact zd); (next => exact zd)) | ((with_reducible refine Im.vget false ?_ ?_ ?_); (next => exact zd); (next => exact zd)) | ((with_reducible refine Im.call (impl_ReadVersion.vi hG ?_ _) ?_ (fun r hr => ?_)); (next => omega); (next => exact zr))
      | exact zm | exact zx | fail)
  all_goals skip
theorem impl_comparePre.vi {k m : Nat} {Gv : FuncId → Option (List VV → Option (VV × List VV))} (hG : Base Gv) (hm : k + 4 ≤ m) (a0 : ByteArray) (a1 : ByteArray) : Im (fun r => (.int r, [])) (impl_comparePre.f k a0 a1) (callv Tryz.prog ti keep Gv m 29 [.str a0, .str a1]) := by
  obtain ⟨m, rfl⟩ : ∃ m', m = m' + 1 := ⟨m - 1, by omega⟩
  rw [show callv Tryz.prog ti keep Gv (m + 1) 29 _ = _ from callv_enter ((hG 29 (by decide) (by decide) (by decide)).trans rfl) Tryz.func29 (by kernel_rfl) rfl rfl]
  unfold impl_comparePre.f
  repeat' first
    | ((with_reducible refine Im.nat (fun k => impl_comparePre.j0 k _ _ _ _ _) _ ?_ (fun kj hkj => ?_)); (next => rfl); (conv => arg 2; simp only [impl_comparePre.j0, Bool.false_eq_true, reduceIte])) | (with_reducible first | exact Im.none | refine Im.ite (fun h => ?_) (fun h => ?_) | refine Im.sbind ?_)
    | ((conv => arg 3; whnf); first
      | ((with_reducible refine Im.fin ?_); exact zr) | ((with_reducible refine Im.anyo ?_ ?_); (next => kernel_rfl)) | ((with_reducible refine Im.bite_t ?_ ?_); (next => exact zq)) | ((with_reducible refine Im.bite_f ?_ ?_); (next => exact zq)) | ((with_reducible refine Im.bite_t ?_ ?_); (next => exact zd)) | ((with_reducible refine Im.must ?_ ?_); (next => exact zd)) | ((with_reducible refine Im.bite_f ?_ ?_); (next => exact zd)) | (with_reducible refine Im.byl ?_) | ((with_reducible refine Im.vget ByteArray.empty ?_ ?_ ?_); (next => exact zd); (next => exact zd)) | ((with_reducible refine Im.vget z45 ?_ ?_ ?_); (next => exact zd); (next => exact zd)) | ((with_reducible refine Im.vget (0 : Int) ?_ ?_ ?_); (next => exact zd); (next => exact zd)) | ((with_reducible refine Im.vget false ?_ ?_ ?_); (next => exact zd); (next => exact zd)) | ((with_reducible refine Im.call (impl_compareInts.vi hG ?_ _ _) ?_ (fun r hr => ?_)); (next => omega); (next => exact zr)) | ((with_reducible refine Im.call (impl_isNumber.vi hG ?_ _) ?_ (fun r hr => ?_)); (next => omega); (next => exact zr)) | ((with_reducible refine Im.call (strings_Compare.vi hG ?_ _ _) ?_ (fun r hr => ?_)); (next => omega); (next => exact zr)) | ((with_reducible refine Im.call (strings_TrimLeft.vi hG ?_ _ _) ?_ (fun r hr => ?_)); (next => omega); (next => exact zr))
      | exact zm | exact zx | fail)
  all_goals skip
theorem impl_CompareVersion.vi {k m : Nat} {Gv : FuncId → Option (List VV → Option (VV × List VV))} (hG : Base Gv) (hm : k + 5 ≤ m) (a0_0 : Int) (a0_1 : Int) (a0_2 : Int) (l0_3 : List ByteArray) (a1_0 : Int) (a1_1 : Int) (a1_2 : Int) (l1_3 : List ByteArray) : Im (fun r => (.int r, [])) (impl_CompareVersion.f k a0_0 a0_1 a0_2 l0_3 a1_0 a1_1 a1_2 l1_3) (callv Tryz.prog ti keep Gv m 15 [.ag [.int a0_0, .int a0_1, .int a0_2, .sl (l0_3.map VV.str)], .ag [.int a1_0, .int a1_1, .int a1_2, .sl (l1_3.map VV.str)]]) := by
  obtain ⟨m, rfl⟩ : ∃ m', m = m' + 1 := ⟨m - 1, by omega⟩
  rw [show callv Tryz.prog ti keep Gv (m + 1) 15 _ = _ from callv_enter ((hG 15 (by decide) (by decide) (by decide)).trans rfl) Tryz.func15 (by kernel_rfl) rfl rfl]
  unfold impl_CompareVersion.f
  repeat' first
    | (with_reducible first | exact Im.none | refine Im.ite (fun h => ?_) (fun h => ?_) | refine Im.sbind ?_)
    | ((conv => arg 3; whnf); first
      | ((with_reducible refine Im.fin ?_); exact zr) | ((with_reducible refine Im.anyo ?_ ?_); (next => kernel_rfl)) | ((with_reducible refine Im.bite_t ?_ ?_); (next => exact zq)) | ((with_reducible refine Im.bite_f ?_ ?_); (next => exact zq)) | ((with_reducible refine Im.bite_t ?_ ?_); (next => exact zd)) | ((with_reducible refine Im.must ?_ ?_); (next => exact zd)) | ((with_reducible refine Im.bite_f ?_ ?_); (next => exact zd)) | (with_reducible refine Im.byl ?_) | ((with_reducible refine Im.vget ByteArray.empty ?_ ?_ ?_); (next => exact zd); (next => exact zd)) | ((with_reducible refine Im.vget z45 ?_ ?_ ?_); (next => exact zd); (next => exact zd)) | ((with_reducible refine Im.vget (0 : Int) ?_ ?_ ?_); (next => exact zd); (next => exact zd)) | ((with_reducible refine Im.vget false ?_ ?_ ?_); (next => exact zd); (next => exact zd)) | ((with_reducible refine Im.call (impl_compareInts.vi hG ?_ _ _) ?_ (fun r hr => ?_)); (next => omega); (next => exact zr)) | ((with_reducible refine Im.call (impl_comparePre.vi hG ?_ _ _) ?_ (fun r hr => ?_)); (next => omega); (next => exact zr))
      | ((with_reducible refine Im.loop (S := fun s : List Int × Int × Int × Int × Int × Int × List ByteArray × Int × Int × Int × List ByteArray => [.un, .un, .bx [.int s.2.2.2.1, .int s.2.2.2.2.1, .int s.2.2.2.2.2.1, .sl (s.2.2.2.2.2.2.1.map VV.str)], .bx [.int s.2.2.2.2.2.2.2.1, .int s.2.2.2.2.2.2.2.2.1, .int s.2.2.2.2.2.2.2.2.2.1, .sl (s.2.2.2.2.2.2.2.2.2.2.map VV.str)], .un, .un, .un, .un, .un, .un, .un, .un, .un, .un, .un, .un, .un, .un, .un, .un, .un, .un, .un, .un, .ow 3 1 (s.1.map VV.int), .int s.2.1, .int s.2.2.1, .un, .un, .un, .un, .un, .un, .un, .un, .un, .un, .un, .un, .un, .un, .un, .un, .un, .un, .un, .un, .un, .un, .un, .un, .un, .un, .un, .un, .un, .un, .un, .un, .un, .un, .un, .un, .un, .un, .un, .un, .un, .un, .un, .un, .un, .un, .un, .un, .un, .un, .un, .un, .un, .un, .un]) (L := fun k s => impl_CompareVersion.l0 k s.1 s.2.1 s.2.2.1 s.2.2.2.1 s.2.2.2.2.1 s.2.2.2.2.2.1 s.2.2.2.2.2.2.1 s.2.2.2.2.2.2.2.1 s.2.2.2.2.2.2.2.2.1 s.2.2.2.2.2.2.2.2.2.1 s.2.2.2.2.2.2.2.2.2.2) _ ?_ ?_ _ _ ⟨_, _, _, _, _, _, _, _, _, _, _⟩ _ (Nat.le_refl _) zo ?_)
         (next => intro s; rfl)
         (next =>
           intro k1 M1 ⟨x24, x25, x26, x600000, x600001, x600002, x600003, x601000, x601001, x601002, x601003⟩ hk1 hM1 ih1
           conv => arg 2; simp only [impl_CompareVersion.l0]
           repeat' first
             | (with_reducible first | exact Im.none | refine Im.ite (fun h => ?_) (fun h => ?_) | refine Im.sbind ?_)
             | ((conv => arg 3; whnf); first
               | ((with_reducible refine Im.fin ?_); exact zr) | ((with_reducible refine Im.anyo ?_ ?_); (next => kernel_rfl)) | ((with_reducible refine Im.bite_t ?_ ?_); (next => exact zq)) | ((with_reducible refine Im.bite_f ?_ ?_); (next => exact zq)) | ((with_reducible refine Im.bite_t ?_ ?_); (next => exact zd)) | ((with_reducible refine Im.must ?_ ?_); (next => exact zd)) | ((with_reducible refine Im.bite_f ?_ ?_); (next => exact zd)) | (with_reducible refine Im.byl ?_) | ((with_reducible refine Im.vget ByteArray.empty ?_ ?_ ?_); (next => exact zd); (next => exact zd)) | ((with_reducible refine Im.vget z45 ?_ ?_ ?_); (next => exact zd); (next => exact zd)) | ((with_reducible refine Im.vget (0 : Int) ?_ ?_ ?_); (next => exact zd); (next => exact zd)) | ((with_reducible refine Im.vget false ?_ ?_ ?_); (next => exact zd); (next => exact zd)) | ((with_reducible refine Im.call (impl_compareInts.vi hG ?_ _ _) ?_ (fun r hr => ?_)); (next => omega); (next => exact zr)) | ((with_reducible refine Im.call (impl_comparePre.vi hG ?_ _ _) ?_ (fun r hr => ?_)); (next => omega); (next => exact zr)) | ((with_reducible refine ih1 _ ⟨_, _, _, _, _, _, _, _, _, _, _⟩ _ ?_ ?_); (next => exact zo); exact zr)
               | ((with_reducible refine Im.loop (S := fun s : Int × Int × Int × Int × Int × List ByteArray × Int × Int × Int × List ByteArray => [.un, .un, .bx [.int s.2.2.1, .int s.2.2.2.1, .int s.2.2.2.2.1, .sl (s.2.2.2.2.2.1.map VV.str)], .bx [.int s.2.2.2.2.2.2.1, .int s.2.2.2.2.2.2.2.1, .int s.2.2.2.2.2.2.2.2.1, .sl (s.2.2.2.2.2.2.2.2.2.map VV.str)], .un, .un, .un, .un, .un, .un, .un, .un, .un, .un, .un, .un, .un, .un, .un, .un, .un, .un, .un, .un, .un, .un, .un, .un, .un, .un, .un, .un, .un, .un, .un, .un, .un, .un, .un, .un, .un, .un, .un, .un, .un, .un, .un, .un, .un, .un, .un, .un, .un, .un, .un, .un, .int s.1, .int s.2.1, .un, .un, .un, .un, .un, .un, .un, .un, .un, .un, .un, .un, .un, .un, .un, .un, .un, .un, .un, .un, .un, .un, .un, .un]) (L := fun k s => impl_CompareVersion.l1 k s.1 s.2.1 s.2.2.1 s.2.2.2.1 s.2.2.2.2.1 s.2.2.2.2.2.1 s.2.2.2.2.2.2.1 s.2.2.2.2.2.2.2.1 s.2.2.2.2.2.2.2.2.1 s.2.2.2.2.2.2.2.2.2) _ ?_ ?_ _ _ ⟨_, _, _, _, _, _, _, _, _, _⟩ _ (Nat.le_refl _) zo ?_)
                  (next => intro s; rfl)
                  (next =>
                    intro k2 M2 ⟨x56, x57, x600000, x600001, x600002, x600003, x601000, x601001, x601002, x601003⟩ hk2 hM2 ih2
                    conv => arg 2; simp only [impl_CompareVersion.l1]
                    repeat' first
                      | (with_reducible first | exact Im.none | refine Im.ite (fun h => ?_) (fun h => ?_) | refine Im.sbind ?_)
                      | ((conv => arg 3; whnf); first
                        | ((with_reducible refine Im.fin ?_); exact zr) | ((with_reducible refine Im.anyo ?_ ?_); (next => kernel_rfl)) | ((with_reducible refine Im.bite_t ?_ ?_); (next => exact zq)) | ((with_reducible refine Im.bite_f ?_ ?_); (next => exact zq)) | ((with_reducible refine Im.bite_t ?_ ?_); (next => exact zd)) | ((with_reducible refine Im.must ?_ ?_); (next => exact zd)) | ((with_reducible refine Im.bite_f ?_ ?_); (next => exact zd)) | (with_reducible refine Im.byl ?_) | ((with_reducible refine Im.vget ByteArray.empty ?_ ?_ ?_); (next => exact zd); (next => exact zd)) | ((with_reducible refine Im.vget z45 ?_ ?_ ?_); (next => exact zd); (next => exact zd)) | ((with_reducible refine Im.vget (0 : Int) ?_ ?_ ?_); (next => exact zd); (next => exact zd)) | ((with_reducible refine Im.vget false ?_ ?_ ?_); (next => exact zd); (next => exact zd)) | ((with_reducible refine Im.call (impl_compareInts.vi hG ?_ _ _) ?_ (fun r hr => ?_)); (next => omega); (next => exact zr)) | ((with_reducible refine Im.call (impl_comparePre.vi hG ?_ _ _) ?_ (fun r hr => ?_)); (next => omega); (next => exact zr)) | ((with_reducible refine ih2 _ ⟨_, _, _, _, _, _, _, _, _, _⟩ _ ?_ ?_); (next => exact zo); exact zr)
                        | exact zm | exact zx | fail)
                    all_goals skip)
                  exact zr)
               | exact zm | exact zx | fail)
           all_goals skip)
         exact zr)
      | exact zm | exact zx | fail)
  all_goals skip
theorem impl_compareTexts.vi {k m : Nat} {Gv : FuncId → Option (List VV → Option (VV × List VV))} (hG : Base Gv) (hm : k + 8 ≤ m) (a0 : ByteArray) (a1 : ByteArray) : Im (fun r => (.int r, [])) (impl_compareTexts.f k a0 a1) (callv Tryz.prog ti keep Gv m 23 [.str a0, .str a1]) := by
  obtain ⟨m, rfl⟩ : ∃ m', m = m' + 1 := ⟨m - 1, by omega⟩
  rw [show callv Tryz.prog ti keep Gv (m + 1) 23 _ = _ from callv_enter ((hG 23 (by decide) (by decide) (by decide)).trans rfl) Tryz.func23 (by kernel_rfl) rfl rfl]
  unfold impl_compareTexts.f
  repeat' first
    | (with_reducible first | exact Im.none | refine Im.ite (fun h => ?_) (fun h => ?_) | refine Im.sbind ?_)
    | ((conv => arg 3; whnf); first
      | ((with_reducible refine Im.fin ?_); exact zr) | ((with_reducible refine Im.anyo ?_ ?_); (next => kernel_rfl)) | ((with_reducible refine Im.bite_t ?_ ?_); (next => exact zq)) | ((with_reducible refine Im.bite_f ?_ ?_); (next => exact zq)) | ((with_reducible refine Im.bite_t ?_ ?_); (next => exact zd)) | ((with_reducible refine Im.must ?_ ?_); (next => exact zd)) | ((with_reducible refine Im.bite_f ?_ ?_); (next => exact zd)) | (with_reducible refine Im.byl ?_) | ((with_reducible refine Im.vget ByteArray.empty ?_ ?_ ?_); (next => exact zd); (next => exact zd)) | ((with_reducible refine Im.vget z45 ?_ ?_ ?_); (next => exact zd); (next => exact zd)) | ((with_reducible refine Im.vget (0 : Int) ?_ ?_ ?_); (next => exact zd); (next => exact zd)) | ((with_reducible refine Im.vget false ?_ ?_ ?_); (next => exact zd); (next => exact zd)) | ((with_reducible refine Im.call (impl_CompareVersion.vi hG ?_ _ _ _ _ _ _ _ _) ?_ (fun r hr => ?_)); (next => omega); (next => exact zr)) | ((with_reducible refine Im.call (impl_ReadVersion.vi hG ?_ _) ?_ (fun r hr => ?_)); (next => omega); (next => exact zr))
      | exact zm | exact zx | fail)
  all_goals skip
theorem impl_RangeOk.vi {k m : Nat} {Gv : FuncId → Option (List VV → Option (VV × List VV))} (hG : Base Gv) (hm : k + 9 ≤ m) (l0 : List (S45)) : Im (fun r => (.bool r, [])) (impl_RangeOk.f k l0) (callv Tryz.prog ti keep Gv m 22 [.sl (l0.map e45)]) := by
  obtain ⟨m, rfl⟩ : ∃ m', m = m' + 1 := ⟨m - 1, by omega⟩
  rw [show callv Tryz.prog ti keep Gv (m + 1) 22 _ = _ from callv_enter ((hG 22 (by decide) (by decide) (by decide)).trans rfl) Tryz.func22 (by kernel_rfl) rfl rfl]
  unfold impl_RangeOk.f
  repeat' first
    | (with_reducible first | exact Im.none | refine Im.ite (fun h => ?_) (fun h => ?_) | refine Im.sbind ?_)
    | ((conv => arg 3; whnf); first
      | ((with_reducible refine Im.fin ?_); exact zr) | ((with_reducible refine Im.anyo ?_ ?_); (next => kernel_rfl)) | ((with_reducible refine Im.bite_t ?_ ?_); (next => exact zq)) | ((with_reducible refine Im.bite_f ?_ ?_); (next => exact zq)) | ((with_reducible refine Im.bite_t ?_ ?_); (next => exact zd)) | ((with_reducible refine Im.must ?_ ?_); (next => exact zd)) | ((with_reducible refine Im.bite_f ?_ ?_); (next => exact zd)) | (with_reducible refine Im.byl ?_) | ((with_reducible refine Im.vget ByteArray.empty ?_ ?_ ?_); (next => exact zd); (next => exact zd)) | ((with_reducible refine Im.vget z45 ?_ ?_ ?_); (next => exact zd); (next => exact zd)) | ((with_reducible refine Im.vget (0 : Int) ?_ ?_ ?_); (next => exact zd); (next => exact zd)) | ((with_reducible refine Im.vget false ?_ ?_ ?_); (next => exact zd); (next => exact zd)) | ((with_reducible refine Im.call (impl_isVersion.vi hG ?_ _) ?_ (fun r hr => ?_)); (next => omega); (next => exact zr)) | ((with_reducible refine Im.call (impl_within.vi hG ?_ _ _ _) ?_ (fun r hr => ?_)); (next => omega); (next => exact zr))
      | ((with_reducible refine Im.loop (S := fun s : List (S45) × List (S45) × Int × Int => [.sl (s.1.map e45), .un, .un, .un, .un, .sl (s.2.1.map e45), .int s.2.2.1, .int s.2.2.2, .un, .un, .un, .un, .un, .un, .un, .un, .un, .un, .un, .un, .un, .un, .un, .un, .un, .un, .un, .un, .un, .un, .un, .un, .un, .un, .un]) (L := fun k s => impl_RangeOk.l0 k s.1 s.2.1 s.2.2.1 s.2.2.2) _ ?_ ?_ _ _ ⟨_, _, _, _⟩ _ (Nat.le_refl _) zo ?_)
         (next => intro s; rfl)
         (next =>
           intro k1 M1 ⟨x0, x5, x6, x7⟩ hk1 hM1 ih1
           conv => arg 2; simp only [impl_RangeOk.l0]
           repeat' first
             | (with_reducible first | exact Im.none | refine Im.ite (fun h => ?_) (fun h => ?_) | refine Im.sbind ?_)
             | ((conv => arg 3; whnf); first
               | ((with_reducible refine Im.fin ?_); exact zr) | ((with_reducible refine Im.anyo ?_ ?_); (next => kernel_rfl)) | ((with_reducible refine Im.bite_t ?_ ?_); (next => exact zq)) | ((with_reducible refine Im.bite_f ?_ ?_); (next => exact zq)) | ((with_reducible refine Im.bite_t ?_ ?_); (next => exact zd)) | ((with_reducible refine Im.must ?_ ?_); (next => exact zd)) | ((with_reducible refine Im.bite_f ?_ ?_); (next => exact zd)) | (with_reducible refine Im.byl ?_) | ((with_reducible refine Im.vget ByteArray.empty ?_ ?_ ?_); (next => exact zd); (next => exact zd)) | ((with_reducible refine Im.vget z45 ?_ ?_ ?_); (next => exact zd); (next => exact zd)) | ((with_reducible refine Im.vget (0 : Int) ?_ ?_ ?_); (next => exact zd); (next => exact zd)) | ((with_reducible refine Im.vget false ?_ ?_ ?_); (next => exact zd); (next => exact zd)) | ((with_reducible refine Im.call (impl_isVersion.vi hG ?_ _) ?_ (fun r hr => ?_)); (next => omega); (next => exact zr)) | ((with_reducible refine Im.call (impl_within.vi hG ?_ _ _ _) ?_ (fun r hr => ?_)); (next => omega); (next => exact zr)) | ((with_reducible refine ih1 _ ⟨_, _, _, _⟩ _ ?_ ?_); (next => exact zo); exact zr)
               | exact zm | exact zx | fail)
           all_goals skip)
         exact zr)
      | exact zm | exact zx | fail)
  all_goals skip
theorem impl_In.vi {k m : Nat} {Gv : FuncId → Option (List VV → Option (VV × List VV))} (hG : Base Gv) (hm : k + 10 ≤ m) (a0 : ByteArray) (l1 : List (S45)) : Im (fun r => (.bool r, [])) (impl_In.f k a0 l1) (callv Tryz.prog ti keep Gv m 12 [.str a0, .sl (l1.map e45)]) := by
  obtain ⟨m, rfl⟩ : ∃ m', m = m' + 1 := ⟨m - 1, by omega⟩
  rw [show callv Tryz.prog ti keep Gv (m + 1) 12 _ = _ from callv_enter ((hG 12 (by decide) (by decide) (by decide)).trans rfl) Tryz.func12 (by kernel_rfl) rfl rfl]
  unfold impl_In.f
  repeat' first
    | ((with_reducible refine Im.nat (fun k => impl_In.j0 k _ _ _ _ _ _ _) _ ?_ (fun kj hkj => ?_)); (next => rfl); (conv => arg 2; simp only [impl_In.j0, Bool.false_eq_true, reduceIte])) | (with_reducible first | exact Im.none | refine Im.ite (fun h => ?_) (fun h => ?_) | refine Im.sbind ?_)
    | ((conv => arg 3; whnf); first
      | ((with_reducible refine Im.fin ?_); exact zr) | ((with_reducible refine Im.anyo ?_ ?_); (next => kernel_rfl)) | ((with_reducible refine Im.bite_t ?_ ?_); (next => exact zq)) | ((with_reducible refine Im.bite_f ?_ ?_); (next => exact zq)) | ((with_reducible refine Im.bite_t ?_ ?_); (next => exact zd)) | ((with_reducible refine Im.must ?_ ?_); (next => exact zd)) | ((with_reducible refine Im.bite_f ?_ ?_); (next => exact zd)) | (with_reducible refine Im.byl ?_) | ((with_reducible refine Im.vget ByteArray.empty ?_ ?_ ?_); (next => exact zd); (next => exact zd)) | ((with_reducible refine Im.vget z45 ?_ ?_ ?_); (next => exact zd); (next => exact zd)) | ((with_reducible refine Im.vget (0 : Int) ?_ ?_ ?_); (next => exact zd); (next => exact zd)) | ((with_reducible refine Im.vget false ?_ ?_ ?_); (next => exact zd); (next => exact zd)) | ((with_reducible refine Im.call (impl_RangeOk.vi hG ?_ _) ?_ (fun r hr => ?_)); (next => omega); (next => exact zr)) | ((with_reducible refine Im.call (impl_ReadVersion.vi hG ?_ _) ?_ (fun r hr => ?_)); (next => omega); (next => exact zr)) | ((with_reducible refine Im.call (impl_compareTexts.vi hG ?_ _ _) ?_ (fun r hr => ?_)); (next => omega); (next => exact zr))
      | ((with_reducible refine Im.loop (S := fun s : ByteArray × List (S45) × Int × Int × Int × Int × Int × List ByteArray => [.str s.1, .un, .un, .un, .un, .bx [.int s.2.2.2.2.1, .int s.2.2.2.2.2.1, .int s.2.2.2.2.2.2.1, .sl (s.2.2.2.2.2.2.2.map VV.str)], .un, .un, .un, .un, .un, .un, .un, .un, .un, .un, .un, .un, .un, .un, .un, .un, .un, .sl (s.2.1.map e45), .int s.2.2.1, .int s.2.2.2.1, .un, .un, .un, .un, .un, .un, .un, .un, .un, .un, .un, .un, .un, .un, .un, .un, .un, .un, .un, .un, .un, .un, .un, .un, .un, .un, .un, .un, .un, .un, .un, .un, .un, .un, .un, .un, .un, .un, .un, .un, .un, .un, .un, .un, .un, .un, .un, .un, .un, .un, .un, .un, .un, .un, .un, .un, .un, .un, .un, .un, .un, .un, .un]) (L := fun k s => impl_In.l0 k s.1 s.2.1 s.2.2.1 s.2.2.2.1 s.2.2.2.2.1 s.2.2.2.2.2.1 s.2.2.2.2.2.2.1 s.2.2.2.2.2.2.2) _ ?_ ?_ _ _ ⟨_, _, _, _, _, _, _, _⟩ _ (Nat.le_refl _) zo ?_)
         (next => intro s; rfl)
         (next =>
           intro k1 M1 ⟨x0, x23, x24, x25, x638000, x638001, x638002, x638003⟩ hk1 hM1 ih1
           conv => arg 2; simp only [impl_In.l0]
           repeat' first
             | ((with_reducible refine Im.nat (fun k => impl_In.j2 k _ _ _ _ _ _ _ _ _ _ _) _ ?_ (fun kj hkj => ?_)); (next => rfl); (conv => arg 2; simp only [impl_In.j2, Bool.false_eq_true, reduceIte])) | (with_reducible first | exact Im.none | refine Im.ite (fun h => ?_) (fun h => ?_) | refine Im.sbind ?_)
             | ((conv => arg 3; whnf); first
               | ((with_reducible refine Im.fin ?_); exact zr) | ((with_reducible refine Im.anyo ?_ ?_); (next => kernel_rfl)) | ((with_reducible refine Im.bite_t ?_ ?_); (next => exact zq)) | ((with_reducible refine Im.bite_f ?_ ?_); (next => exact zq)) | ((with_reducible refine Im.bite_t ?_ ?_); (next => exact zd)) | ((with_reducible refine Im.must ?_ ?_); (next => exact zd)) | ((with_reducible refine Im.bite_f ?_ ?_); (next => exact zd)) | (with_reducible refine Im.byl ?_) | ((with_reducible refine Im.vget ByteArray.empty ?_ ?_ ?_); (next => exact zd); (next => exact zd)) | ((with_reducible refine Im.vget z45 ?_ ?_ ?_); (next => exact zd); (next => exact zd)) | ((with_reducible refine Im.vget (0 : Int) ?_ ?_ ?_); (next => exact zd); (next => exact zd)) | ((with_reducible refine Im.vget false ?_ ?_ ?_); (next => exact zd); (next => exact zd)) | ((with_reducible refine Im.call (impl_RangeOk.vi hG ?_ _) ?_ (fun r hr => ?_)); (next => omega); (next => exact zr)) | ((with_reducible refine Im.call (impl_ReadVersion.vi hG ?_ _) ?_ (fun r hr => ?_)); (next => omega); (next => exact zr)) | ((with_reducible refine Im.call (impl_compareTexts.vi hG ?_ _ _) ?_ (fun r hr => ?_)); (next => omega); (next => exact zr)) | ((with_reducible refine ih1 _ ⟨_, _, _, _, _, _, _, _⟩ _ ?_ ?_); (next => exact zo); exact zr)
               | exact zm | exact zx | fail)
           all_goals skip)
         exact zr)
      | exact zm | exact zx | fail)
  all_goals skip
end Go.Proofs.YtoidompkofomjaaGreatDoor.VI

end
section
namespace Go.Proofs.YtoidompkofomjaaGreatDoor.VI
open Go Go.RowKit Go.Proofs.YtoidompkofomjaaGreatDoor.G Go.Proofs.YtoidompkofomjaaGreatDoorW.PrintWords
set_option maxRecDepth 100000
set_option maxHeartbeats 16000000
set_option linter.unusedVariables false
set_option linter.unusedSimpArgs false
theorem impl_SortVersions.vi {m : Nat} {Gv : FuncId → Option (List VV → Option (VV × List VV))} (hG : Base Gv) (hL19 : Gv 19 = some impl_SortVersions.gv) (hm : 1 ≤ m) (l0 : List ByteArray) : Im (fun r => (.ow 9 1 (r.map VV.str), [])) (impl_SortVersions.f l0) (callv Tryz.prog ti keep Gv m 19 [.sl (l0.map VV.str)]) := by
  obtain ⟨m, rfl⟩ : ∃ m', m = m' + 1 := ⟨m - 1, by omega⟩
  rw [show callv Tryz.prog ti keep Gv (m + 1) 19 _ = _ from callv_given hL19]
  intro r h
  show obind (unS (l0.map VV.str)) _ = _
  rw [unS_map]
  show (impl_SortVersions.f l0).map _ = _
  rw [h]
  rfl
theorem spec_DrawHoles.vi {k m : Nat} {Gv : FuncId → Option (List VV → Option (VV × List VV))} (hG : Base Gv) (hL7 : Gv 7 = some spec_DrawHoles.gv) (hm : k + 1 ≤ m) (l0 : List Int) : Im (fun r => (.tu [.sl (r.1.map VV.str), .sl (r.2.map e45)], [])) (spec_DrawHoles.f k l0) (callv Tryz.prog ti keep Gv m 7 [.sl (l0.map VV.byte)]) := by
  obtain ⟨m, rfl⟩ : ∃ m', m = m' + 1 := ⟨m - 1, by omega⟩
  rw [show callv Tryz.prog ti keep Gv (m + 1) 7 _ = _ from callv_given hL7]
  intro r h
  show obind (byL (l0.map VV.byte)) _ = _
  rw [byL_of]
  show (limF (fun k => spec_DrawHoles.f k l0)).map _ = _
  rw [limF_some (fun k => spec_DrawHoles.mono _ k) h]
  rfl
theorem spec_DrawPick.vi {k m : Nat} {Gv : FuncId → Option (List VV → Option (VV × List VV))} (hG : Base Gv) (hL5 : Gv 5 = some spec_DrawPick.gv) (hm : k + 1 ≤ m) (l0 : List Int) : Im (fun r => (.tu [.sl (r.1.map VV.str), .sl (r.2.map e45)], [])) (spec_DrawPick.f k l0) (callv Tryz.prog ti keep Gv m 5 [.sl (l0.map VV.byte)]) := by
  obtain ⟨m, rfl⟩ : ∃ m', m = m' + 1 := ⟨m - 1, by omega⟩
  rw [show callv Tryz.prog ti keep Gv (m + 1) 5 _ = _ from callv_given hL5]
  intro r h
  show obind (byL (l0.map VV.byte)) _ = _
  rw [byL_of]
  show (limF (fun k => spec_DrawPick.f k l0)).map _ = _
  rw [limF_some (fun k => spec_DrawPick.mono _ k) h]
  rfl
end Go.Proofs.YtoidompkofomjaaGreatDoor.VI

end
section
namespace Go.Proofs.YtoidompkofomjaaGreatDoor.VI
open Go Go.RowKit Go.Proofs.YtoidompkofomjaaGreatDoor.G Go.Proofs.YtoidompkofomjaaGreatDoorW.PrintWords
set_option maxRecDepth 100000
set_option maxHeartbeats 16000000
attribute [local irreducible] bite obind vget
theorem impl_Holes.vi {k m : Nat} {Gv : FuncId → Option (List VV → Option (VV × List VV))} (hG : Base Gv) (hL19 : Gv 19 = some impl_SortVersions.gv) (hm : k + 11 ≤ m) (l0 : List ByteArray) (l1 : List (S45)) : Im (fun r => (.ow 9 1 (r.map VV.str), [])) (impl_Holes.f k l0 l1) (callv Tryz.prog ti keep Gv m 8 [.sl (l0.map VV.str), .sl (l1.map e45)]) := by
  obtain ⟨m, rfl⟩ : ∃ m', m = m' + 1 := ⟨m - 1, by omega⟩
  rw [show callv Tryz.prog ti keep Gv (m + 1) 8 _ = _ from callv_enter ((hG 8 (by decide) (by decide) (by decide)).trans rfl) Tryz.func8 (by kernel_rfl) rfl rfl]
  unfold impl_Holes.f
  repeat' first
    | (with_reducible first | exact Im.none | refine Im.ite (fun h => ?_) (fun h => ?_) | refine Im.sbind ?_)
    | ((conv => arg 3; whnf); first
      | ((with_reducible refine Im.fin ?_); exact zr) | ((with_reducible refine Im.anyo ?_ ?_); (next => kernel_rfl)) | ((with_reducible refine Im.bite_t ?_ ?_); (next => exact zq)) | ((with_reducible refine Im.bite_f ?_ ?_); (next => exact zq)) | ((with_reducible refine Im.bite_t ?_ ?_); (next => exact zd)) | ((with_reducible refine Im.must ?_ ?_); (next => exact zd)) | ((with_reducible refine Im.bite_f ?_ ?_); (next => exact zd)) | (with_reducible refine Im.byl ?_) | ((with_reducible refine Im.vget ByteArray.empty ?_ ?_ ?_); (next => exact zd); (next => exact zd)) | ((with_reducible refine Im.vget z45 ?_ ?_ ?_); (next => exact zd); (next => exact zd)) | ((with_reducible refine Im.vget (0 : Int) ?_ ?_ ?_); (next => exact zd); (next => exact zd)) | ((with_reducible refine Im.vget false ?_ ?_ ?_); (next => exact zd); (next => exact zd)) | ((with_reducible refine Im.call (impl_In.vi hG ?_ _ _) ?_ (fun r hr => ?_)); (next => omega); (next => exact zr)) | ((with_reducible refine Im.call (impl_SortVersions.vi hG hL19 ?_ _) ?_ (fun r hr => ?_)); (next => omega); (next => exact zr))
      | ((with_reducible refine Im.loop (S := fun s : List (S45) × List ByteArray × List ByteArray × Bool × List ByteArray × Int × Int => [.un, .sl (s.1.map e45), .un, .un, .un, .un, .ow 9 1 (s.2.1.map VV.str), (nlw 9 s.2.2.2.1 s.2.2.1), .bool s.2.2.2.1, .un, .un, .un, .un, .un, .un, .sl (s.2.2.2.2.1.map VV.str), .int s.2.2.2.2.2.1, .int s.2.2.2.2.2.2, .un, .un, .un, .un, .un, .un, .un, .un, .un, .un, .un, .un, .un, .un, .un, .un, .un, .un]) (L := fun k s => impl_Holes.l0 k s.1 s.2.1 s.2.2.1 s.2.2.2.1 s.2.2.2.2.1 s.2.2.2.2.2.1 s.2.2.2.2.2.2) _ ?_ ?_ _ _ ⟨_, _, _, _, _, _, _⟩ _ (Nat.le_refl _) zo ?_)
         (next => intro s; rfl)
         (next =>
           intro k1 M1 ⟨x1, x6, x7, x8, x15, x16, x17⟩ hk1 hM1 ih1
           rcases x8 with _ | _ <;> rcases x7 with _ | ⟨y0, x7⟩
           all_goals (conv => arg 2; simp only [impl_Holes.l0, Bool.false_eq_true, reduceIte])
           repeat' first
             | (with_reducible first | exact Im.none | refine Im.ite (fun h => ?_) (fun h => ?_) | refine Im.sbind ?_)
             | ((conv => arg 3; whnf); first
               | ((with_reducible refine Im.fin ?_); exact zr) | ((with_reducible refine Im.anyo ?_ ?_); (next => kernel_rfl)) | ((with_reducible refine Im.bite_t ?_ ?_); (next => exact zq)) | ((with_reducible refine Im.bite_f ?_ ?_); (next => exact zq)) | ((with_reducible refine Im.bite_t ?_ ?_); (next => exact zd)) | ((with_reducible refine Im.must ?_ ?_); (next => exact zd)) | ((with_reducible refine Im.bite_f ?_ ?_); (next => exact zd)) | (with_reducible refine Im.byl ?_) | ((with_reducible refine Im.vget ByteArray.empty ?_ ?_ ?_); (next => exact zd); (next => exact zd)) | ((with_reducible refine Im.vget z45 ?_ ?_ ?_); (next => exact zd); (next => exact zd)) | ((with_reducible refine Im.vget (0 : Int) ?_ ?_ ?_); (next => exact zd); (next => exact zd)) | ((with_reducible refine Im.vget false ?_ ?_ ?_); (next => exact zd); (next => exact zd)) | ((with_reducible refine Im.call (impl_In.vi hG ?_ _ _) ?_ (fun r hr => ?_)); (next => omega); (next => exact zr)) | ((with_reducible refine Im.call (impl_SortVersions.vi hG hL19 ?_ _) ?_ (fun r hr => ?_)); (next => omega); (next => exact zr)) | ((with_reducible refine ih1 _ ⟨_, _, _, _, _, _, _⟩ _ ?_ ?_); (next => exact zo); exact zr)
               | exact zm | exact zx | fail)
           all_goals skip)
         exact zr)
      | exact zm | exact zx | fail)
  all_goals skip
theorem impl_Pick.vi {k m : Nat} {Gv : FuncId → Option (List VV → Option (VV × List VV))} (hG : Base Gv) (hL19 : Gv 19 = some impl_SortVersions.gv) (hm : k + 11 ≤ m) (l0 : List ByteArray) (l1 : List (S45)) : Im (fun r => (.str r, [])) (impl_Pick.f k l0 l1) (callv Tryz.prog ti keep Gv m 6 [.sl (l0.map VV.str), .sl (l1.map e45)]) := by
  obtain ⟨m, rfl⟩ : ∃ m', m = m' + 1 := ⟨m - 1, by omega⟩
  rw [show callv Tryz.prog ti keep Gv (m + 1) 6 _ = _ from callv_enter ((hG 6 (by decide) (by decide) (by decide)).trans rfl) Tryz.func6 (by kernel_rfl) rfl rfl]
  unfold impl_Pick.f
  repeat' first
    | (with_reducible first | exact Im.none | refine Im.ite (fun h => ?_) (fun h => ?_) | refine Im.sbind ?_)
    | ((conv => arg 3; whnf); first
      | ((with_reducible refine Im.fin ?_); exact zr) | ((with_reducible refine Im.anyo ?_ ?_); (next => kernel_rfl)) | ((with_reducible refine Im.bite_t ?_ ?_); (next => exact zq)) | ((with_reducible refine Im.bite_f ?_ ?_); (next => exact zq)) | ((with_reducible refine Im.bite_t ?_ ?_); (next => exact zd)) | ((with_reducible refine Im.must ?_ ?_); (next => exact zd)) | ((with_reducible refine Im.bite_f ?_ ?_); (next => exact zd)) | (with_reducible refine Im.byl ?_) | ((with_reducible refine Im.vget ByteArray.empty ?_ ?_ ?_); (next => exact zd); (next => exact zd)) | ((with_reducible refine Im.vget z45 ?_ ?_ ?_); (next => exact zd); (next => exact zd)) | ((with_reducible refine Im.vget (0 : Int) ?_ ?_ ?_); (next => exact zd); (next => exact zd)) | ((with_reducible refine Im.vget false ?_ ?_ ?_); (next => exact zd); (next => exact zd)) | ((with_reducible refine Im.call (impl_In.vi hG ?_ _ _) ?_ (fun r hr => ?_)); (next => omega); (next => exact zr)) | ((with_reducible refine Im.call (impl_SortVersions.vi hG hL19 ?_ _) ?_ (fun r hr => ?_)); (next => omega); (next => exact zr))
      | ((with_reducible refine Im.loop (S := fun s : List (S45) × List ByteArray × Int => [.un, .sl (s.1.map e45), .un, .un, .un, .ow 9 1 (s.2.1.map VV.str), .int s.2.2, .un, .un, .un, .un, .un, .un, .un, .un, .un, .un, .un, .un, .un, .un, .un, .un, .un, .un, .un]) (L := fun k s => impl_Pick.l0 k s.1 s.2.1 s.2.2) _ ?_ ?_ _ _ ⟨_, _, _⟩ _ (Nat.le_refl _) zo ?_)
         (next => intro s; rfl)
         (next =>
           intro k1 M1 ⟨x1, x5, x6⟩ hk1 hM1 ih1
           conv => arg 2; simp only [impl_Pick.l0]
           repeat' first
             | (with_reducible first | exact Im.none | refine Im.ite (fun h => ?_) (fun h => ?_) | refine Im.sbind ?_)
             | ((conv => arg 3; whnf); first
               | ((with_reducible refine Im.fin ?_); exact zr) | ((with_reducible refine Im.anyo ?_ ?_); (next => kernel_rfl)) | ((with_reducible refine Im.bite_t ?_ ?_); (next => exact zq)) | ((with_reducible refine Im.bite_f ?_ ?_); (next => exact zq)) | ((with_reducible refine Im.bite_t ?_ ?_); (next => exact zd)) | ((with_reducible refine Im.must ?_ ?_); (next => exact zd)) | ((with_reducible refine Im.bite_f ?_ ?_); (next => exact zd)) | (with_reducible refine Im.byl ?_) | ((with_reducible refine Im.vget ByteArray.empty ?_ ?_ ?_); (next => exact zd); (next => exact zd)) | ((with_reducible refine Im.vget z45 ?_ ?_ ?_); (next => exact zd); (next => exact zd)) | ((with_reducible refine Im.vget (0 : Int) ?_ ?_ ?_); (next => exact zd); (next => exact zd)) | ((with_reducible refine Im.vget false ?_ ?_ ?_); (next => exact zd); (next => exact zd)) | ((with_reducible refine Im.call (impl_In.vi hG ?_ _ _) ?_ (fun r hr => ?_)); (next => omega); (next => exact zr)) | ((with_reducible refine Im.call (impl_SortVersions.vi hG hL19 ?_ _) ?_ (fun r hr => ?_)); (next => omega); (next => exact zr)) | ((with_reducible refine ih1 _ ⟨_, _, _⟩ _ ?_ ?_); (next => exact zo); exact zr)
               | exact zm | exact zx | fail)
           all_goals skip)
         exact zr)
      | exact zm | exact zx | fail)
  all_goals skip
end Go.Proofs.YtoidompkofomjaaGreatDoor.VI

end
section
namespace Go.Proofs.YtoidompkofomjaaGreatDoor.VI
open Go Go.RowKit Go.Proofs.YtoidompkofomjaaGreatDoor.G Go.Proofs.YtoidompkofomjaaGreatDoorW.PrintWords
set_option linter.unusedVariables false
set_option linter.unusedSimpArgs false
theorem kv45 : KV k45 (fun x => (e45 x).cells) := kv_iso (kv_pair kv_string kv_string) (fun _ => rfl)
end Go.Proofs.YtoidompkofomjaaGreatDoor.VI

end
section
namespace Go.Proofs.YtoidompkofomjaaGreatDoor.VI
open Go Go.RowKit Go.Proofs.YtoidompkofomjaaGreatDoor.G Go.Proofs.YtoidompkofomjaaGreatDoorW.PrintWords
set_option maxRecDepth 100000
set_option linter.unusedVariables false
set_option linter.unusedSimpArgs false
theorem unS_inv : ∀ (q : List VV) (l : List ByteArray), unS q = some l → q = l.map VV.str
  | [], l, h => by cases h; rfl
  | v :: r, l, h => by
    cases v with
    | s x =>
      cases x with
      | string b =>
        obtain ⟨l', h1, h2⟩ := obind_some h
        cases h2
        rw [unS_inv r l' h1]
        rfl
      | _ => cases h
    | _ => cases h
theorem strings_Cut.giv {W : World} (hE : Glob FactE W) (hM : Glob FactM W) (hT : Glob FactT W) : ∀ vs r, strings_Cut.gv vs = some r → CallOk1 Tryz.prog W.heap.size (fun w => Below W.heap.size W w) 24 vs r := by
  intro vs r h
  unfold strings_Cut.gv at h
  split at h
  case h_2 => cases h
  rename_i a0 a1
  obtain ⟨q, hq, rfl⟩ := Option.map_eq_some_iff.1 h
  refine giv_ok ⟨_, Tryz.func24, by kernel_rfl, by kernel_rfl⟩ rfl fun w ms pd hw hd => ?_
  obtain ⟨m0, ms0, rfl, h0, hd⟩ := drs_cons hd
  obtain ⟨m1, ms1, rfl, h1, hd⟩ := drs_cons hd
  obtain rfl := drs_nil hd
  obtain rfl := dr_s h0
  obtain rfl := dr_s h1
  exact (strings_Cut.calls (a0 := a0) (a1 := a1) (r1 := q.1) (r2 := q.2.1) (r3 := q.2.2) (w := w) (h := hq) (hGM := Glob.below hM hw)).mono fun e w' he => ⟨_, he.1, (Drawn0.below he.2), resOf_tu [.string q.1, .string q.2.1, .bool q.2.2]⟩
theorem strings_Split.giv {W : World} (hE : Glob FactE W) (hM : Glob FactM W) (hT : Glob FactT W) : ∀ vs r, strings_Split.gv vs = some r → CallOk1 Tryz.prog W.heap.size (fun w => Below W.heap.size W w) 25 vs r := by
  intro vs r h
  unfold strings_Split.gv at h
  split at h
  case h_2 => cases h
  rename_i a0 a1
  obtain ⟨q, hq, rfl⟩ := Option.map_eq_some_iff.1 h
  refine giv_ok ⟨_, Tryz.func25, by kernel_rfl, by kernel_rfl⟩ rfl fun w ms pd hw hd => ?_
  obtain ⟨m0, ms0, rfl, h0, hd⟩ := drs_cons hd
  obtain ⟨m1, ms1, rfl, h1, hd⟩ := drs_cons hd
  obtain rfl := drs_nil hd
  obtain rfl := dr_s h0
  obtain rfl := dr_s h1
  refine (strings_Split.calls (a0 := a0) (a1 := a1) (r := q) (w := w) (h := hq) (hGM := Glob.below hM hw)).mono fun e w' he => ?_
  obtain ⟨v0, rfl, hR, hb⟩ := he
  refine ⟨v0, rfl, hb, resOf_ow (mk := Value.string) (fun _ => rfl) ?_ (Kd.own_of_R hR)⟩
  exact (Kd.R_reads hR).elim fun _ ⟨_, _, _, hC⟩ => hC.2.1
theorem impl_ReadDec.giv {W : World} (hE : Glob FactE W) (hM : Glob FactM W) (hT : Glob FactT W) : ∀ vs r, impl_ReadDec.gv vs = some r → CallOk1 Tryz.prog W.heap.size (fun w => Below W.heap.size W w) 26 vs r := by
  intro vs r h
  unfold impl_ReadDec.gv at h
  split at h
  case h_2 => cases h
  rename_i a0
  obtain ⟨q, hq, rfl⟩ := Option.map_eq_some_iff.1 h
  refine giv_ok ⟨_, Tryz.func26, by kernel_rfl, by kernel_rfl⟩ rfl fun w ms pd hw hd => ?_
  obtain ⟨m0, ms0, rfl, h0, hd⟩ := drs_cons hd
  obtain rfl := drs_nil hd
  obtain rfl := dr_s h0
  exact (impl_ReadDec.calls (a0 := a0) (r := q) (w := w) (h := hq) (hGE := Glob.below hE hw) (hGT := Glob.below hT hw)).mono fun e w' he => ⟨_, he.1, (he.2), resOf_s _⟩
theorem strings_Join.giv {W : World} (hE : Glob FactE W) (hM : Glob FactM W) (hT : Glob FactT W) : ∀ vs r, strings_Join.gv vs = some r → CallOk1 Tryz.prog W.heap.size (fun w => Below W.heap.size W w) 50 vs r := by
  intro vs r h
  unfold strings_Join.gv at h
  split at h
  case h_2 => cases h
  rename_i q0 a1
  obtain ⟨l0, hq0, h2⟩ := obind_some h
  obtain rfl := unS_inv _ _ hq0
  obtain ⟨q, hq, rfl⟩ := Option.map_eq_some_iff.1 h2
  refine giv_ok ⟨_, Tryz.func50, by kernel_rfl, by kernel_rfl⟩ rfl fun w ms pd hw hd => ?_
  obtain ⟨m0, ms0, rfl, h0, hd⟩ := drs_cons hd
  obtain ⟨m1, ms1, rfl, h1, hd⟩ := drs_cons hd
  obtain rfl := drs_nil hd
  obtain ⟨A0, c0, rfl, hc0, hr0⟩ := c_of_dr (mk := Value.string) (h1 := fun _ => rfl) h0
  obtain rfl := dr_s h1
  exact (strings_Join.calls (l0 := l0) (a1 := a1) (r := q) (w := w) (h := hq) (A0 := A0) (c0 := c0) (hr0 := hr0) (hc0 := hc0)).mono fun e w' he => ⟨_, he.1, (he.2), resOf_s _⟩
theorem strings_TrimLeft.giv {W : World} (hE : Glob FactE W) (hM : Glob FactM W) (hT : Glob FactT W) : ∀ vs r, strings_TrimLeft.gv vs = some r → CallOk1 Tryz.prog W.heap.size (fun w => Below W.heap.size W w) 52 vs r := by
  intro vs r h
  unfold strings_TrimLeft.gv at h
  split at h
  case h_2 => cases h
  rename_i a0 a1
  obtain ⟨q, hq, rfl⟩ := Option.map_eq_some_iff.1 h
  refine giv_ok ⟨_, Tryz.func52, by kernel_rfl, by kernel_rfl⟩ rfl fun w ms pd hw hd => ?_
  obtain ⟨m0, ms0, rfl, h0, hd⟩ := drs_cons hd
  obtain ⟨m1, ms1, rfl, h1, hd⟩ := drs_cons hd
  obtain rfl := drs_nil hd
  obtain rfl := dr_s h0
  obtain rfl := dr_s h1
  exact (strings_TrimLeft.calls (a0 := a0) (a1 := a1) (r := q) (w := w) (h := hq)).mono fun e w' he => ⟨_, he.1, (Drawn0.below he.2), resOf_s _⟩
theorem strings_Compare.giv {W : World} (hE : Glob FactE W) (hM : Glob FactM W) (hT : Glob FactT W) : ∀ vs r, strings_Compare.gv vs = some r → CallOk1 Tryz.prog W.heap.size (fun w => Below W.heap.size W w) 53 vs r := by
  intro vs r h
  unfold strings_Compare.gv at h
  split at h
  case h_2 => cases h
  rename_i a0 a1
  obtain ⟨q, hq, rfl⟩ := Option.map_eq_some_iff.1 h
  refine giv_ok ⟨_, Tryz.func53, by kernel_rfl, by kernel_rfl⟩ rfl fun w ms pd hw hd => ?_
  obtain ⟨m0, ms0, rfl, h0, hd⟩ := drs_cons hd
  obtain ⟨m1, ms1, rfl, h1, hd⟩ := drs_cons hd
  obtain rfl := drs_nil hd
  obtain rfl := dr_s h0
  obtain rfl := dr_s h1
  exact (strings_Compare.calls (a0 := a0) (a1 := a1) (r := q) (w := w) (h := hq)).mono fun e w' he => ⟨_, he.1, (Drawn0.below he.2), resOf_s _⟩
theorem strconv_Itoa.giv {W : World} (hE : Glob FactE W) (hM : Glob FactM W) (hT : Glob FactT W) : ∀ vs r, strconv_Itoa.gv vs = some r → CallOk1 Tryz.prog W.heap.size (fun w => Below W.heap.size W w) 74 vs r := by
  intro vs r h
  unfold strconv_Itoa.gv at h
  split at h
  case h_2 => cases h
  rename_i a0
  obtain ⟨q, hq, rfl⟩ := Option.map_eq_some_iff.1 h
  refine giv_ok ⟨_, Tryz.func74, by kernel_rfl, by kernel_rfl⟩ rfl fun w ms pd hw hd => ?_
  obtain ⟨m0, ms0, rfl, h0, hd⟩ := drs_cons hd
  obtain rfl := drs_nil hd
  obtain rfl := dr_s h0
  exact (strconv_Itoa.calls (a0 := a0) (r := q) (w := w) (h := hq) (hGT := Glob.below hT hw)).mono fun e w' he => ⟨_, he.1, (he.2), resOf_s _⟩
theorem given_ok0 {W : World} (hE : Glob FactE W) (hM : Glob FactM W) (hT : Glob FactT W) : GivenOk Tryz.prog W.heap.size (fun w => Below W.heap.size W w) Gv0 := by
  intro f g vs r hg hr
  unfold Gv0 at hg
  split at hg
  · cases hg; exact strings_Cut.giv hE hM hT vs r hr
  · cases hg; exact strings_Split.giv hE hM hT vs r hr
  · cases hg; exact impl_ReadDec.giv hE hM hT vs r hr
  · cases hg; exact strings_Join.giv hE hM hT vs r hr
  · cases hg; exact strings_TrimLeft.giv hE hM hT vs r hr
  · cases hg; exact strings_Compare.giv hE hM hT vs r hr
  · cases hg; exact strconv_Itoa.giv hE hM hT vs r hr
  · cases hg
end Go.Proofs.YtoidompkofomjaaGreatDoor.VI

end
section
namespace Go.Proofs.YtoidompkofomjaaGreatDoor.G
open Go Go.RowKit Go.Proofs.YtoidompkofomjaaGreatDoorW.PrintWords Go.Proofs.YtoidompkofomjaaGreatDoor.VI
set_option maxRecDepth 100000
set_option linter.unusedVariables false
set_option linter.unusedSimpArgs false
theorem spec_VersionText.calls (k : Nat) (a0_0 : Int) (a0_1 : Int) (a0_2 : Int) (A0_3 : Option Addr) (c0_3 : Nat) (l0_3 : List ByteArray) (r : ByteArray) (w : World) (hr0_3 : Kd.C Kd.string w A0_3 l0_3.length l0_3) (hc0_3 : l0_3.length ≤ c0_3) (hGE : Glob FactE w) (hGM : Glob FactM w) (hGT : Glob FactT w) (h : spec_VersionText.f k a0_0 a0_1 a0_2 l0_3 = some r) :
  Calls Tryz.prog 55 #[.agg #[.int .i64 a0_0, .int .i64 a0_1, .int .i64 a0_2, .slice A0_3 l0_3.length c0_3]] w fun e w' => e = .returned (.string r) ∧ Below w.heap.size w w' := by
  have gws : ∀ a b, Below w.heap.size w a → Below w.heap.size a b → Below w.heap.size w b := fun a b h1 h2 => h1.trans h2
  have hok := callv_ok (P := Tryz.prog) (NG := w.heap.size) (GW := fun a => Below w.heap.size w a) VI.hti gws (keep := keep) (Gv := Gv0) (given_ok0 hGE hGM hGT) (fun C hC hc => any_sound (by kernel_rfl) (by rw [hC]; exact VI.hti) gws hc) (k + 5)
  exact CallOk1.calls (hok 55 _ _ rfl (spec_VersionText.vi (k := k) (m := k + 5) base0 (Nat.le_refl _) a0_0 a0_1 a0_2 l0_3 _ h)) (Below.refl _ _) (Nat.le_refl _) (.cons _ _ _ _ (.ag _ _ (.cons _ _ _ _ (.s _) (.cons _ _ _ _ (.s _) (.cons _ _ _ _ (.s _) (.cons _ _ _ _ (dr_row (enc := VV.str) kv_string hc0_3 hr0_3) .nil)))) (by intro m hm; simp only [List.mem_cons, List.not_mem_nil, or_false] at hm; rcases hm with rfl | rfl | rfl | rfl <;> rfl)) .nil)
theorem spec_l03Part.calls (k : Nat) (a0 : ByteArray) (r1 : ByteArray) (r2 : ByteArray) (r3 : Bool) (w : World) (hGE : Glob FactE w) (hGM : Glob FactM w) (hGT : Glob FactT w) (h : spec_l03Part.f k a0 = some (r1, r2, r3)) :
  Calls Tryz.prog 58 #[.string a0] w fun e w' => e = .returned (.tuple #[.agg #[.string r1, .string r2], .bool r3]) ∧ Below w.heap.size w w' := by
  have gws : ∀ a b, Below w.heap.size w a → Below w.heap.size a b → Below w.heap.size w b := fun a b h1 h2 => h1.trans h2
  have hok := callv_ok (P := Tryz.prog) (NG := w.heap.size) (GW := fun a => Below w.heap.size w a) VI.hti gws (keep := keep) (Gv := Gv0) (given_ok0 hGE hGM hGT) (fun C hC hc => any_sound (by kernel_rfl) (by rw [hC]; exact VI.hti) gws hc) (k + 10)
  exact CallOk1.callsA [.string r1, .string r2] [.bool r3] (hok 58 _ _ rfl (spec_l03Part.vi (k := k) (m := k + 10) base0 (Nat.le_refl _) a0 _ h)) (Below.refl _ _) (Nat.le_refl _) (.cons _ _ _ _ (.s _) .nil)
end Go.Proofs.YtoidompkofomjaaGreatDoor.G

end
section
namespace Go.Proofs.YtoidompkofomjaaGreatDoor.G
open Go.RowKit Go.Proofs.YtoidompkofomjaaGreatDoorW.PrintWords Go.Proofs.YtoidompkofomjaaGreatDoorW.PrintLast Go.Proofs.YtoidompkofomjaaGreatDoorW.PrintMore
attribute [local go_sem] max2_int min2_int max_two min_two max_three min_three max_four min_four
attribute [local go_sem high] Go.Proofs.YtoidompkofomjaaGreatDoor.G.str_gtr Go.Proofs.YtoidompkofomjaaGreatDoor.G.str_leq Go.Proofs.YtoidompkofomjaaGreatDoor.G.str_geq
set_option linter.unusedVariables false
set_option linter.unusedSimpArgs false
set_option maxHeartbeats 8000000 in
set_option maxRecDepth 100000 in
theorem spec_l02Right.calls (k : Nat) (g : Nat) (s0_0 : List Int) (s0_1 : Int) (s0_2 : Int) (r1 : ByteArray) (r2 : Int) (r3 : Int) (w0 w : World) (hI : IsS55 w0 w g s0_0 s0_1 s0_2) (hB : Below w0.heap.size w0 w) (hGE : Glob FactE w0) (hGM : Glob FactM w0) (hGT : Glob FactT w0) (h : spec_l02Right.f k s0_0 s0_1 s0_2 = some (r1, r2, r3)) :
  Calls Tryz.prog 32 #[.pointer (some ⟨g, 0, none⟩)] w fun e w' => e = .returned (.string r1) ∧ IsS55 w0 w' g s0_0 r2 r3 ∧ Below w0.heap.size w0 w' ∧ KeepBut w w' g none := by
 have HI0 := Aside0.mk hI
 have HK := Aside0.mk (KeepBut.refl w g none)
 have HL := Aside0.mk hB.size
 clear hI
 have HW0 := Aside0.mk hB.size
 have HB := Aside0.mk hB
 clear hB
 have HGE := Aside0.mk hGE
 clear hGE
 have HGM := Aside0.mk hGM
 clear hGM
 have HGT := Aside0.mk hGT
 clear hGT
 have H : ((spec_l02Version.f k s0_0 s0_1 s0_2).bind fun bt244 => ((spec_VersionText.f k bt244.1 bt244.2.1 bt244.2.2.1 bt244.2.2.2.1).bind fun t252 => (if t252.toList = ([] : List UInt8) then (some ((⟨#[49, 46, 48, 46, 48]⟩ : ByteArray), bt244.2.2.2.2.1, bt244.2.2.2.2.2)) else (some (t252, bt244.2.2.2.2.1, bt244.2.2.2.2.2))))) = some (r1, r2, r3) := h
 clear h
 replace H := Option.bind_eq_some_iff.mp H
 obtain ⟨⟨t244, t245, t246, t247, t250, t251⟩, A20, H⟩ := H
 try dsimp only at H
 have A2 := Aside0.mk A20
 clear A20
 replace H := Option.bind_eq_some_iff.mp H
 obtain ⟨t252, A30, H⟩ := H
 try dsimp only at H
 have A3 := Aside0.mk A30
 clear A30
 by_cases c4 : t252.toList = ([] : List UInt8)
 ·rw [if_pos c4] at H
  have c4b0 : (t252.toList == ([] : List UInt8)) = true := beq_iff_eq.mpr c4
  have c4b1 : (t252.toList != ([] : List UInt8)) = false := bne_eq_false_iff_eq.mpr c4
  clear c4
  simp only [Option.some.injEq, Prod.mk.injEq] at H
  obtain ⟨rfl, rfl, rfl⟩ := H
  go_enter Tryz.func32, Tryz.ntmps32
  go_wp2_with (first | ((with_reducible refine gate_callee (f := 56) rfl ?_); refine goesL_ (some 5) rfl rfl Tryz.func56 zb17 rfl #[.pointer (some ⟨g, 0, none⟩)] rfl zb4 ?_; (with_reducible refine (spec_l02Version.calls k g s0_0 s0_1 s0_2 t244 t245 t246 t247 t250 t251 w0 _ ?side1 ?side2 A2.out).mono ?_); (case side1 => exact zb1); (case side2 => exact zb2); rintro e w5 ⟨v248, rfl, ho0, hi, hb, hk⟩; refine ⟨_, rfl, ?_⟩; have HO249 := Aside0.mk (Kd.R_lower ho0 (keep_size (w := w) (g := g) (row := none) zb3)); replace HK := Aside0.mk (KeepBut.trans zb3 hk (.inl rfl)); replace HB := Aside0.mk hb; replace HI0 := Aside0.mk hi; (try clear hb); (try clear ho0); obtain ⟨Ao6, co6, eo6⟩ := Kd.R_slice HO249.out; subst eo6) | ((with_reducible refine gate_callee (f := 55) rfl ?_); refine goesL_ (some 6) rfl rfl Tryz.func55 zb17 rfl #[.agg #[.int .i64 t244, .int .i64 t245, .int .i64 t246, .slice Ao6 t247.length co6]] rfl zb4 ?_; (with_reducible refine (spec_VersionText.calls k t244 t245 t246 _ _ t247 t252 _ ?side1 ?side2 ?side3 ?side4 ?side5 A3.out).mono ?_); (case side1 => exact zb33); (case side2 => exact (Kd.R_reads' HO249.out).2.1); (case side3 => exact Glob.below HGE.out zb2); (case side4 => exact Glob.below HGM.out zb2); (case side5 => exact Glob.below HGT.out zb2); rintro e w7 ⟨rfl, hb⟩; refine ⟨_, rfl, ?_⟩; replace HO249 := Aside0.mk (Kd.R_below (zR HO249.out) hb); replace HK := Aside0.mk (KeepBut.trans zb3 (KeepBut.of_below hb g none) (.inl rfl)); replace HB := Aside0.mk (below_step zb2 hb); replace HI0 := Aside0.mk (IsS55.below zb1 hb); (try clear hb)))
  go_ret
  exact ⟨zb9, zb1, zb2, zb3⟩
 ·rw [if_neg c4] at H
  have c4b0 : (t252.toList == ([] : List UInt8)) = false := beq_eq_false_iff_ne.mpr c4
  have c4b1 : (t252.toList != ([] : List UInt8)) = true := bne_iff_ne.mpr c4
  simp only [Option.some.injEq, Prod.mk.injEq] at H
  obtain ⟨rfl, rfl, rfl⟩ := H
  go_enter Tryz.func32, Tryz.ntmps32
  go_wp2_with (first | ((with_reducible refine gate_callee (f := 56) rfl ?_); refine goesL_ (some 5) rfl rfl Tryz.func56 zb17 rfl #[.pointer (some ⟨g, 0, none⟩)] rfl zb4 ?_; (with_reducible refine (spec_l02Version.calls k g s0_0 s0_1 s0_2 t244 t245 t246 t247 t250 t251 w0 _ ?side1 ?side2 A2.out).mono ?_); (case side1 => exact zb1); (case side2 => exact zb2); rintro e w8 ⟨v248, rfl, ho0, hi, hb, hk⟩; refine ⟨_, rfl, ?_⟩; have HO249 := Aside0.mk (Kd.R_lower ho0 (keep_size (w := w) (g := g) (row := none) zb3)); replace HK := Aside0.mk (KeepBut.trans zb3 hk (.inl rfl)); replace HB := Aside0.mk hb; replace HI0 := Aside0.mk hi; (try clear hb); (try clear ho0); obtain ⟨Ao9, co9, eo9⟩ := Kd.R_slice HO249.out; subst eo9) | ((with_reducible refine gate_callee (f := 55) rfl ?_); refine goesL_ (some 6) rfl rfl Tryz.func55 zb17 rfl #[.agg #[.int .i64 t244, .int .i64 t245, .int .i64 t246, .slice Ao9 t247.length co9]] rfl zb4 ?_; (with_reducible refine (spec_VersionText.calls k t244 t245 t246 _ _ t247 t252 _ ?side1 ?side2 ?side3 ?side4 ?side5 A3.out).mono ?_); (case side1 => exact zb33); (case side2 => exact (Kd.R_reads' HO249.out).2.1); (case side3 => exact Glob.below HGE.out zb2); (case side4 => exact Glob.below HGM.out zb2); (case side5 => exact Glob.below HGT.out zb2); rintro e w10 ⟨rfl, hb⟩; refine ⟨_, rfl, ?_⟩; replace HO249 := Aside0.mk (Kd.R_below (zR HO249.out) hb); replace HK := Aside0.mk (KeepBut.trans zb3 (KeepBut.of_below hb g none) (.inl rfl)); replace HB := Aside0.mk (below_step zb2 hb); replace HI0 := Aside0.mk (IsS55.below zb1 hb); (try clear hb)))
  go_ret
  exact ⟨zb9, zb1, zb2, zb3⟩
end Go.Proofs.YtoidompkofomjaaGreatDoor.G

end
