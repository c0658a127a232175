/- A part of the proof that the law FnExactGraphText answers true at every input that its row speaks of. Conditions: the row's own. -/
import Derived.Test.YteldcmniknocpaaGreatDoorMFnExactGraphText2
import Derived.Test.YteldcmniknocpaaGreatDoorMFnExactGraphText0
import Derived.Test.YteldcmniknocpaaGreatDoorKFnExactGraphText0
section
namespace Go.Proofs.YteldcmniknocpaaGreatDoor.VI
open Go Go.RowKit Go.Proofs.YteldcmniknocpaaGreatDoor.G Go.Proofs.YteldcmniknocpaaGreatDoorW.PrintWords
set_option maxRecDepth 100000
set_option maxHeartbeats 1000000
attribute [local irreducible] bite obind vget
theorem laws_eqStringS.vi {k m : Nat} (hm : k + 1 ≤ m) (l0 : List ByteArray) (l1 : List ByteArray) : Im (fun r => (.bool r, [])) (laws_eqStringS.f k l0 l1) (cv m 18 [.sl (l0.map VV.str), .sl (l1.map VV.str)]) := by
  obtain ⟨m, rfl⟩ : ∃ m', m = m' + 1 := ⟨m - 1, by omega⟩
  rw [show cv (m + 1) 18 _ = _ from callv_enter rfl Tryz.func18 (by kernel_rfl) rfl rfl]
  unfold laws_eqStringS.f
  repeat' first
    | (with_reducible first | exact Im.none | refine Im.ite (fun h => ?_) (fun h => ?_) | refine Im.sbind ?_)
    | ((conv => arg 3; whnf); first
      | ((with_reducible refine Im.fin ?_); exact zr)
      | ((with_reducible refine Im.anyo ?_ ?_); (next => kernel_rfl))
      | ((with_reducible refine Im.bite_t ?_ ?_); (next => exact zd))
      | ((with_reducible refine Im.must ?_ ?_); (next => exact zd))
      | ((with_reducible refine Im.bite_f ?_ ?_); (next => exact zd))
      | (with_reducible refine Im.byl ?_)
      | ((with_reducible refine Im.vget ByteArray.empty ?_ ?_ ?_); (next => exact zd); (next => exact zd))
      | ((with_reducible refine Im.vget z51 ?_ ?_ ?_); (next => exact zd); (next => exact zd))
      | ((with_reducible refine Im.vget z44 ?_ ?_ ?_); (next => exact zd); (next => exact zd))
      | ((with_reducible refine Im.vget z124 ?_ ?_ ?_); (next => exact zd); (next => exact zd))
      | ((with_reducible refine Im.vget z66 ?_ ?_ ?_); (next => exact zd); (next => exact zd))
      | ((with_reducible refine Im.vget z97 ?_ ?_ ?_); (next => exact zd); (next => exact zd))
      | ((with_reducible refine Im.vget (0 : Int) ?_ ?_ ?_); (next => exact zd); (next => exact zd))
      | ((with_reducible refine Im.vget false ?_ ?_ ?_); (next => exact zd); (next => exact zd))
      | ((with_reducible refine Im.loop (S := fun s : List ByteArray × List ByteArray × Int => [.sl (s.1.map VV.str), .sl (s.2.1.map VV.str), .un, .un, .un, .int s.2.2, .un, .un, .un, .un, .un, .un, .un, .un, .un, .un, .un, .un, .un, .un, .un, .un, .un, .un, .un, .un]) (L := fun k s => laws_eqStringS.l0 k s.1 s.2.1 s.2.2) _ ?_ ?_ _ _ ⟨_, _, _⟩ _ (Nat.le_refl _) zo ?_)
         (next => intro s; rfl)
         (next =>
           intro k1 M1 ⟨x0, x1, x5⟩ hk1 hM1 ih1
           conv => arg 2; simp only [laws_eqStringS.l0]
           repeat' first
             | (with_reducible first | exact Im.none | refine Im.ite (fun h => ?_) (fun h => ?_) | refine Im.sbind ?_)
             | ((conv => arg 3; whnf); first
               | ((with_reducible refine Im.fin ?_); exact zr)
               | ((with_reducible refine Im.anyo ?_ ?_); (next => kernel_rfl))
               | ((with_reducible refine Im.bite_t ?_ ?_); (next => exact zd))
               | ((with_reducible refine Im.must ?_ ?_); (next => exact zd))
               | ((with_reducible refine Im.bite_f ?_ ?_); (next => exact zd))
               | (with_reducible refine Im.byl ?_)
               | ((with_reducible refine Im.vget ByteArray.empty ?_ ?_ ?_); (next => exact zd); (next => exact zd))
               | ((with_reducible refine Im.vget z51 ?_ ?_ ?_); (next => exact zd); (next => exact zd))
               | ((with_reducible refine Im.vget z44 ?_ ?_ ?_); (next => exact zd); (next => exact zd))
               | ((with_reducible refine Im.vget z124 ?_ ?_ ?_); (next => exact zd); (next => exact zd))
               | ((with_reducible refine Im.vget z66 ?_ ?_ ?_); (next => exact zd); (next => exact zd))
               | ((with_reducible refine Im.vget z97 ?_ ?_ ?_); (next => exact zd); (next => exact zd))
               | ((with_reducible refine Im.vget (0 : Int) ?_ ?_ ?_); (next => exact zd); (next => exact zd))
               | ((with_reducible refine Im.vget false ?_ ?_ ?_); (next => exact zd); (next => exact zd))
               | ((with_reducible refine ih1 _ ⟨_, _, _⟩ _ ?_ ?_); (next => exact zo); exact zr)
               | exact zm | exact zx | fail)
           all_goals skip)
         exact zr)
      | exact zm | exact zx | fail)
  all_goals skip
theorem laws_eqSum.vi {m : Nat} (hm : 1 ≤ m) (a0_0 : ByteArray) (a0_1 : ByteArray) (a1_0 : ByteArray) (a1_1 : ByteArray) : Im (fun r => (.bool r, [])) (laws_eqSum.f a0_0 a0_1 a1_0 a1_1) (cv m 120 [.ag [.str a0_0, .str a0_1], .ag [.str a1_0, .str a1_1]]) := by
  obtain ⟨m, rfl⟩ : ∃ m', m = m' + 1 := ⟨m - 1, by omega⟩
  rw [show cv (m + 1) 120 _ = _ from callv_enter rfl Tryz.func120 (by kernel_rfl) rfl rfl]
  unfold laws_eqSum.f
  repeat' first
    | (with_reducible first | exact Im.none | refine Im.ite (fun h => ?_) (fun h => ?_) | refine Im.sbind ?_)
    | ((conv => arg 3; whnf); first
      | ((with_reducible refine Im.fin ?_); exact zr)
      | ((with_reducible refine Im.anyo ?_ ?_); (next => kernel_rfl))
      | ((with_reducible refine Im.bite_t ?_ ?_); (next => exact zd))
      | ((with_reducible refine Im.must ?_ ?_); (next => exact zd))
      | ((with_reducible refine Im.bite_f ?_ ?_); (next => exact zd))
      | (with_reducible refine Im.byl ?_)
      | ((with_reducible refine Im.vget ByteArray.empty ?_ ?_ ?_); (next => exact zd); (next => exact zd))
      | ((with_reducible refine Im.vget z51 ?_ ?_ ?_); (next => exact zd); (next => exact zd))
      | ((with_reducible refine Im.vget z44 ?_ ?_ ?_); (next => exact zd); (next => exact zd))
      | ((with_reducible refine Im.vget z124 ?_ ?_ ?_); (next => exact zd); (next => exact zd))
      | ((with_reducible refine Im.vget z66 ?_ ?_ ?_); (next => exact zd); (next => exact zd))
      | ((with_reducible refine Im.vget z97 ?_ ?_ ?_); (next => exact zd); (next => exact zd))
      | ((with_reducible refine Im.vget (0 : Int) ?_ ?_ ?_); (next => exact zd); (next => exact zd))
      | ((with_reducible refine Im.vget false ?_ ?_ ?_); (next => exact zd); (next => exact zd))
      | exact zm | exact zx | fail)
  all_goals skip
theorem laws_eqSumS.vi {k m : Nat} (hm : k + 2 ≤ m) (l0 : List (S51)) (l1 : List (S51)) : Im (fun r => (.bool r, [])) (laws_eqSumS.f k l0 l1) (cv m 89 [.sl (l0.map e51), .sl (l1.map e51)]) := by
  obtain ⟨m, rfl⟩ : ∃ m', m = m' + 1 := ⟨m - 1, by omega⟩
  rw [show cv (m + 1) 89 _ = _ from callv_enter rfl Tryz.func89 (by kernel_rfl) rfl rfl]
  unfold laws_eqSumS.f
  repeat' first
    | (with_reducible first | exact Im.none | refine Im.ite (fun h => ?_) (fun h => ?_) | refine Im.sbind ?_)
    | ((conv => arg 3; whnf); first
      | ((with_reducible refine Im.fin ?_); exact zr)
      | ((with_reducible refine Im.anyo ?_ ?_); (next => kernel_rfl))
      | ((with_reducible refine Im.bite_t ?_ ?_); (next => exact zd))
      | ((with_reducible refine Im.must ?_ ?_); (next => exact zd))
      | ((with_reducible refine Im.bite_f ?_ ?_); (next => exact zd))
      | (with_reducible refine Im.byl ?_)
      | ((with_reducible refine Im.vget ByteArray.empty ?_ ?_ ?_); (next => exact zd); (next => exact zd))
      | ((with_reducible refine Im.vget z51 ?_ ?_ ?_); (next => exact zd); (next => exact zd))
      | ((with_reducible refine Im.vget z44 ?_ ?_ ?_); (next => exact zd); (next => exact zd))
      | ((with_reducible refine Im.vget z124 ?_ ?_ ?_); (next => exact zd); (next => exact zd))
      | ((with_reducible refine Im.vget z66 ?_ ?_ ?_); (next => exact zd); (next => exact zd))
      | ((with_reducible refine Im.vget z97 ?_ ?_ ?_); (next => exact zd); (next => exact zd))
      | ((with_reducible refine Im.vget (0 : Int) ?_ ?_ ?_); (next => exact zd); (next => exact zd))
      | ((with_reducible refine Im.vget false ?_ ?_ ?_); (next => exact zd); (next => exact zd))
      | ((with_reducible refine Im.call (laws_eqSum.vi ?_ _ _ _ _) ?_ (fun r hr => ?_)); (next => omega); (next => exact zr))
      | ((with_reducible refine Im.loop (S := fun s : List (S51) × List (S51) × Int => [.sl (s.1.map e51), .sl (s.2.1.map e51), .un, .un, .un, .int s.2.2, .un, .un, .un, .un, .un, .un, .un, .un, .un, .un, .un, .un, .un, .un, .un, .un, .un, .un, .un, .un, .un]) (L := fun k s => laws_eqSumS.l0 k s.1 s.2.1 s.2.2) _ ?_ ?_ _ _ ⟨_, _, _⟩ _ (Nat.le_refl _) zo ?_)
         (next => intro s; rfl)
         (next =>
           intro k1 M1 ⟨x0, x1, x5⟩ hk1 hM1 ih1
           conv => arg 2; simp only [laws_eqSumS.l0]
           repeat' first
             | (with_reducible first | exact Im.none | refine Im.ite (fun h => ?_) (fun h => ?_) | refine Im.sbind ?_)
             | ((conv => arg 3; whnf); first
               | ((with_reducible refine Im.fin ?_); exact zr)
               | ((with_reducible refine Im.anyo ?_ ?_); (next => kernel_rfl))
               | ((with_reducible refine Im.bite_t ?_ ?_); (next => exact zd))
               | ((with_reducible refine Im.must ?_ ?_); (next => exact zd))
               | ((with_reducible refine Im.bite_f ?_ ?_); (next => exact zd))
               | (with_reducible refine Im.byl ?_)
               | ((with_reducible refine Im.vget ByteArray.empty ?_ ?_ ?_); (next => exact zd); (next => exact zd))
               | ((with_reducible refine Im.vget z51 ?_ ?_ ?_); (next => exact zd); (next => exact zd))
               | ((with_reducible refine Im.vget z44 ?_ ?_ ?_); (next => exact zd); (next => exact zd))
               | ((with_reducible refine Im.vget z124 ?_ ?_ ?_); (next => exact zd); (next => exact zd))
               | ((with_reducible refine Im.vget z66 ?_ ?_ ?_); (next => exact zd); (next => exact zd))
               | ((with_reducible refine Im.vget z97 ?_ ?_ ?_); (next => exact zd); (next => exact zd))
               | ((with_reducible refine Im.vget (0 : Int) ?_ ?_ ?_); (next => exact zd); (next => exact zd))
               | ((with_reducible refine Im.vget false ?_ ?_ ?_); (next => exact zd); (next => exact zd))
               | ((with_reducible refine Im.call (laws_eqSum.vi ?_ _ _ _ _) ?_ (fun r hr => ?_)); (next => omega); (next => exact zr))
               | ((with_reducible refine ih1 _ ⟨_, _, _⟩ _ ?_ ?_); (next => exact zo); exact zr)
               | exact zm | exact zx | fail)
           all_goals skip)
         exact zr)
      | exact zm | exact zx | fail)
  all_goals skip
theorem laws_eqPack.vi {k m : Nat} (hm : k + 3 ≤ m) (a0_0 : ByteArray) (a0_1 : ByteArray) (a0_2 : ByteArray) (l0_3 : List (S51)) (a0_4 : Bool) (l0_5 : List ByteArray) (a1_0 : ByteArray) (a1_1 : ByteArray) (a1_2 : ByteArray) (l1_3 : List (S51)) (a1_4 : Bool) (l1_5 : List ByteArray) : Im (fun r => (.bool r, [])) (laws_eqPack.f k a0_0 a0_1 a0_2 l0_3 a0_4 l0_5 a1_0 a1_1 a1_2 l1_3 a1_4 l1_5) (cv m 56 [.ag [.str a0_0, .str a0_1, .str a0_2, .sl (l0_3.map e51), .bool a0_4, .sl (l0_5.map VV.str)], .ag [.str a1_0, .str a1_1, .str a1_2, .sl (l1_3.map e51), .bool a1_4, .sl (l1_5.map VV.str)]]) := by
  obtain ⟨m, rfl⟩ : ∃ m', m = m' + 1 := ⟨m - 1, by omega⟩
  rw [show cv (m + 1) 56 _ = _ from callv_enter rfl Tryz.func56 (by kernel_rfl) rfl rfl]
  unfold laws_eqPack.f
  repeat' first
    | (with_reducible first | exact Im.none | refine Im.ite (fun h => ?_) (fun h => ?_) | refine Im.sbind ?_)
    | ((conv => arg 3; whnf); first
      | ((with_reducible refine Im.fin ?_); exact zr)
      | ((with_reducible refine Im.anyo ?_ ?_); (next => kernel_rfl))
      | ((with_reducible refine Im.bite_t ?_ ?_); (next => exact zd))
      | ((with_reducible refine Im.must ?_ ?_); (next => exact zd))
      | ((with_reducible refine Im.bite_f ?_ ?_); (next => exact zd))
      | (with_reducible refine Im.byl ?_)
      | ((with_reducible refine Im.vget ByteArray.empty ?_ ?_ ?_); (next => exact zd); (next => exact zd))
      | ((with_reducible refine Im.vget z51 ?_ ?_ ?_); (next => exact zd); (next => exact zd))
      | ((with_reducible refine Im.vget z44 ?_ ?_ ?_); (next => exact zd); (next => exact zd))
      | ((with_reducible refine Im.vget z124 ?_ ?_ ?_); (next => exact zd); (next => exact zd))
      | ((with_reducible refine Im.vget z66 ?_ ?_ ?_); (next => exact zd); (next => exact zd))
      | ((with_reducible refine Im.vget z97 ?_ ?_ ?_); (next => exact zd); (next => exact zd))
      | ((with_reducible refine Im.vget (0 : Int) ?_ ?_ ?_); (next => exact zd); (next => exact zd))
      | ((with_reducible refine Im.vget false ?_ ?_ ?_); (next => exact zd); (next => exact zd))
      | ((with_reducible refine Im.call (laws_eqStringS.vi ?_ _ _) ?_ (fun r hr => ?_)); (next => omega); (next => exact zr))
      | ((with_reducible refine Im.call (laws_eqSumS.vi ?_ _ _) ?_ (fun r hr => ?_)); (next => omega); (next => exact zr))
      | exact zm | exact zx | fail)
  all_goals skip
theorem laws_eqPackS.vi {k m : Nat} (hm : k + 4 ≤ m) (l0 : List (S44)) (l1 : List (S44)) : Im (fun r => (.bool r, [])) (laws_eqPackS.f k l0 l1) (cv m 31 [.sl (l0.map e44), .sl (l1.map e44)]) := by
  obtain ⟨m, rfl⟩ : ∃ m', m = m' + 1 := ⟨m - 1, by omega⟩
  rw [show cv (m + 1) 31 _ = _ from callv_enter rfl Tryz.func31 (by kernel_rfl) rfl rfl]
  unfold laws_eqPackS.f
  repeat' first
    | (with_reducible first | exact Im.none | refine Im.ite (fun h => ?_) (fun h => ?_) | refine Im.sbind ?_)
    | ((conv => arg 3; whnf); first
      | ((with_reducible refine Im.fin ?_); exact zr)
      | ((with_reducible refine Im.anyo ?_ ?_); (next => kernel_rfl))
      | ((with_reducible refine Im.bite_t ?_ ?_); (next => exact zd))
      | ((with_reducible refine Im.must ?_ ?_); (next => exact zd))
      | ((with_reducible refine Im.bite_f ?_ ?_); (next => exact zd))
      | (with_reducible refine Im.byl ?_)
      | ((with_reducible refine Im.vget ByteArray.empty ?_ ?_ ?_); (next => exact zd); (next => exact zd))
      | ((with_reducible refine Im.vget z51 ?_ ?_ ?_); (next => exact zd); (next => exact zd))
      | ((with_reducible refine Im.vget z44 ?_ ?_ ?_); (next => exact zd); (next => exact zd))
      | ((with_reducible refine Im.vget z124 ?_ ?_ ?_); (next => exact zd); (next => exact zd))
      | ((with_reducible refine Im.vget z66 ?_ ?_ ?_); (next => exact zd); (next => exact zd))
      | ((with_reducible refine Im.vget z97 ?_ ?_ ?_); (next => exact zd); (next => exact zd))
      | ((with_reducible refine Im.vget (0 : Int) ?_ ?_ ?_); (next => exact zd); (next => exact zd))
      | ((with_reducible refine Im.vget false ?_ ?_ ?_); (next => exact zd); (next => exact zd))
      | ((with_reducible refine Im.call (laws_eqPack.vi ?_ _ _ _ _ _ _ _ _ _ _ _ _) ?_ (fun r hr => ?_)); (next => omega); (next => exact zr))
      | ((with_reducible refine Im.loop (S := fun s : List (S44) × List (S44) × Int => [.sl (s.1.map e44), .sl (s.2.1.map e44), .un, .un, .un, .int s.2.2, .un, .un, .un, .un, .un, .un, .un, .un, .un, .un, .un, .un, .un, .un, .un, .un, .un, .un, .un, .un, .un]) (L := fun k s => laws_eqPackS.l0 k s.1 s.2.1 s.2.2) _ ?_ ?_ _ _ ⟨_, _, _⟩ _ (Nat.le_refl _) zo ?_)
         (next => intro s; rfl)
         (next =>
           intro k1 M1 ⟨x0, x1, x5⟩ hk1 hM1 ih1
           conv => arg 2; simp only [laws_eqPackS.l0]
           repeat' first
             | (with_reducible first | exact Im.none | refine Im.ite (fun h => ?_) (fun h => ?_) | refine Im.sbind ?_)
             | ((conv => arg 3; whnf); first
               | ((with_reducible refine Im.fin ?_); exact zr)
               | ((with_reducible refine Im.anyo ?_ ?_); (next => kernel_rfl))
               | ((with_reducible refine Im.bite_t ?_ ?_); (next => exact zd))
               | ((with_reducible refine Im.must ?_ ?_); (next => exact zd))
               | ((with_reducible refine Im.bite_f ?_ ?_); (next => exact zd))
               | (with_reducible refine Im.byl ?_)
               | ((with_reducible refine Im.vget ByteArray.empty ?_ ?_ ?_); (next => exact zd); (next => exact zd))
               | ((with_reducible refine Im.vget z51 ?_ ?_ ?_); (next => exact zd); (next => exact zd))
               | ((with_reducible refine Im.vget z44 ?_ ?_ ?_); (next => exact zd); (next => exact zd))
               | ((with_reducible refine Im.vget z124 ?_ ?_ ?_); (next => exact zd); (next => exact zd))
               | ((with_reducible refine Im.vget z66 ?_ ?_ ?_); (next => exact zd); (next => exact zd))
               | ((with_reducible refine Im.vget z97 ?_ ?_ ?_); (next => exact zd); (next => exact zd))
               | ((with_reducible refine Im.vget (0 : Int) ?_ ?_ ?_); (next => exact zd); (next => exact zd))
               | ((with_reducible refine Im.vget false ?_ ?_ ?_); (next => exact zd); (next => exact zd))
               | ((with_reducible refine Im.call (laws_eqPack.vi ?_ _ _ _ _ _ _ _ _ _ _ _ _) ?_ (fun r hr => ?_)); (next => omega); (next => exact zr))
               | ((with_reducible refine ih1 _ ⟨_, _, _⟩ _ ?_ ?_); (next => exact zo); exact zr)
               | exact zm | exact zx | fail)
           all_goals skip)
         exact zr)
      | exact zm | exact zx | fail)
  all_goals skip
theorem laws_eqGraph.vi {k m : Nat} (hm : k + 5 ≤ m) (l0_0 : List ByteArray) (l0_1 : List (S44)) (l1_0 : List ByteArray) (l1_1 : List (S44)) : Im (fun r => (.bool r, [])) (laws_eqGraph.f k l0_0 l0_1 l1_0 l1_1) (cv m 11 [.ag [.sl (l0_0.map VV.str), .sl (l0_1.map e44)], .ag [.sl (l1_0.map VV.str), .sl (l1_1.map e44)]]) := by
  obtain ⟨m, rfl⟩ : ∃ m', m = m' + 1 := ⟨m - 1, by omega⟩
  rw [show cv (m + 1) 11 _ = _ from callv_enter rfl Tryz.func11 (by kernel_rfl) rfl rfl]
  unfold laws_eqGraph.f
  repeat' first
    | (with_reducible first | exact Im.none | refine Im.ite (fun h => ?_) (fun h => ?_) | refine Im.sbind ?_)
    | ((conv => arg 3; whnf); first
      | ((with_reducible refine Im.fin ?_); exact zr)
      | ((with_reducible refine Im.anyo ?_ ?_); (next => kernel_rfl))
      | ((with_reducible refine Im.bite_t ?_ ?_); (next => exact zd))
      | ((with_reducible refine Im.must ?_ ?_); (next => exact zd))
      | ((with_reducible refine Im.bite_f ?_ ?_); (next => exact zd))
      | (with_reducible refine Im.byl ?_)
      | ((with_reducible refine Im.vget ByteArray.empty ?_ ?_ ?_); (next => exact zd); (next => exact zd))
      | ((with_reducible refine Im.vget z51 ?_ ?_ ?_); (next => exact zd); (next => exact zd))
      | ((with_reducible refine Im.vget z44 ?_ ?_ ?_); (next => exact zd); (next => exact zd))
      | ((with_reducible refine Im.vget z124 ?_ ?_ ?_); (next => exact zd); (next => exact zd))
      | ((with_reducible refine Im.vget z66 ?_ ?_ ?_); (next => exact zd); (next => exact zd))
      | ((with_reducible refine Im.vget z97 ?_ ?_ ?_); (next => exact zd); (next => exact zd))
      | ((with_reducible refine Im.vget (0 : Int) ?_ ?_ ?_); (next => exact zd); (next => exact zd))
      | ((with_reducible refine Im.vget false ?_ ?_ ?_); (next => exact zd); (next => exact zd))
      | ((with_reducible refine Im.call (laws_eqPackS.vi ?_ _ _) ?_ (fun r hr => ?_)); (next => omega); (next => exact zr))
      | ((with_reducible refine Im.call (laws_eqStringS.vi ?_ _ _) ?_ (fun r hr => ?_)); (next => omega); (next => exact zr))
      | exact zm | exact zx | fail)
  all_goals skip
theorem laws_szStringS.vi {k m : Nat} (hm : k + 1 ≤ m) (l0 : List ByteArray) (a1 : Int) : Im (fun r => (.int r, [])) (laws_szStringS.f k l0 a1) (cv m 14 [.sl (l0.map VV.str), .int a1]) := by
  obtain ⟨m, rfl⟩ : ∃ m', m = m' + 1 := ⟨m - 1, by omega⟩
  rw [show cv (m + 1) 14 _ = _ from callv_enter rfl Tryz.func14 (by kernel_rfl) rfl rfl]
  unfold laws_szStringS.f
  repeat' first
    | (with_reducible first | exact Im.none | refine Im.ite (fun h => ?_) (fun h => ?_) | refine Im.sbind ?_)
    | ((conv => arg 3; whnf); first
      | ((with_reducible refine Im.fin ?_); exact zr)
      | ((with_reducible refine Im.anyo ?_ ?_); (next => kernel_rfl))
      | ((with_reducible refine Im.bite_t ?_ ?_); (next => exact zd))
      | ((with_reducible refine Im.must ?_ ?_); (next => exact zd))
      | ((with_reducible refine Im.bite_f ?_ ?_); (next => exact zd))
      | (with_reducible refine Im.byl ?_)
      | ((with_reducible refine Im.vget ByteArray.empty ?_ ?_ ?_); (next => exact zd); (next => exact zd))
      | ((with_reducible refine Im.vget z51 ?_ ?_ ?_); (next => exact zd); (next => exact zd))
      | ((with_reducible refine Im.vget z44 ?_ ?_ ?_); (next => exact zd); (next => exact zd))
      | ((with_reducible refine Im.vget z124 ?_ ?_ ?_); (next => exact zd); (next => exact zd))
      | ((with_reducible refine Im.vget z66 ?_ ?_ ?_); (next => exact zd); (next => exact zd))
      | ((with_reducible refine Im.vget z97 ?_ ?_ ?_); (next => exact zd); (next => exact zd))
      | ((with_reducible refine Im.vget (0 : Int) ?_ ?_ ?_); (next => exact zd); (next => exact zd))
      | ((with_reducible refine Im.vget false ?_ ?_ ?_); (next => exact zd); (next => exact zd))
      | ((with_reducible refine Im.loop (S := fun s : List ByteArray × Int × Int => [.sl (s.1.map VV.str), .int s.2.1, .un, .un, .un, .int s.2.2, .un, .un, .un, .un, .un, .un, .un, .un, .un, .un, .un, .un, .un, .un, .un, .un, .un, .un, .un, .un, .un, .un]) (L := fun k s => laws_szStringS.l0 k s.1 s.2.1 s.2.2) _ ?_ ?_ _ _ ⟨_, _, _⟩ _ (Nat.le_refl _) zo ?_)
         (next => intro s; rfl)
         (next =>
           intro k1 M1 ⟨x0, x1, x5⟩ hk1 hM1 ih1
           conv => arg 2; simp only [laws_szStringS.l0]
           repeat' first
             | (with_reducible first | exact Im.none | refine Im.ite (fun h => ?_) (fun h => ?_) | refine Im.sbind ?_)
             | ((conv => arg 3; whnf); first
               | ((with_reducible refine Im.fin ?_); exact zr)
               | ((with_reducible refine Im.anyo ?_ ?_); (next => kernel_rfl))
               | ((with_reducible refine Im.bite_t ?_ ?_); (next => exact zd))
               | ((with_reducible refine Im.must ?_ ?_); (next => exact zd))
               | ((with_reducible refine Im.bite_f ?_ ?_); (next => exact zd))
               | (with_reducible refine Im.byl ?_)
               | ((with_reducible refine Im.vget ByteArray.empty ?_ ?_ ?_); (next => exact zd); (next => exact zd))
               | ((with_reducible refine Im.vget z51 ?_ ?_ ?_); (next => exact zd); (next => exact zd))
               | ((with_reducible refine Im.vget z44 ?_ ?_ ?_); (next => exact zd); (next => exact zd))
               | ((with_reducible refine Im.vget z124 ?_ ?_ ?_); (next => exact zd); (next => exact zd))
               | ((with_reducible refine Im.vget z66 ?_ ?_ ?_); (next => exact zd); (next => exact zd))
               | ((with_reducible refine Im.vget z97 ?_ ?_ ?_); (next => exact zd); (next => exact zd))
               | ((with_reducible refine Im.vget (0 : Int) ?_ ?_ ?_); (next => exact zd); (next => exact zd))
               | ((with_reducible refine Im.vget false ?_ ?_ ?_); (next => exact zd); (next => exact zd))
               | ((with_reducible refine ih1 _ ⟨_, _, _⟩ _ ?_ ?_); (next => exact zo); exact zr)
               | exact zm | exact zx | fail)
           all_goals skip)
         exact zr)
      | exact zm | exact zx | fail)
  all_goals skip
theorem laws_szSum.vi {m : Nat} (hm : 1 ≤ m) (a0_0 : ByteArray) (a0_1 : ByteArray) (a1 : Int) : Im (fun r => (.int r, [])) (laws_szSum.f a0_0 a0_1 a1) (cv m 113 [.ag [.str a0_0, .str a0_1], .int a1]) := by
  obtain ⟨m, rfl⟩ : ∃ m', m = m' + 1 := ⟨m - 1, by omega⟩
  rw [show cv (m + 1) 113 _ = _ from callv_enter rfl Tryz.func113 (by kernel_rfl) rfl rfl]
  unfold laws_szSum.f
  repeat' first
    | (with_reducible first | exact Im.none | refine Im.ite (fun h => ?_) (fun h => ?_) | refine Im.sbind ?_)
    | ((conv => arg 3; whnf); first
      | ((with_reducible refine Im.fin ?_); exact zr)
      | ((with_reducible refine Im.anyo ?_ ?_); (next => kernel_rfl))
      | ((with_reducible refine Im.bite_t ?_ ?_); (next => exact zd))
      | ((with_reducible refine Im.must ?_ ?_); (next => exact zd))
      | ((with_reducible refine Im.bite_f ?_ ?_); (next => exact zd))
      | (with_reducible refine Im.byl ?_)
      | ((with_reducible refine Im.vget ByteArray.empty ?_ ?_ ?_); (next => exact zd); (next => exact zd))
      | ((with_reducible refine Im.vget z51 ?_ ?_ ?_); (next => exact zd); (next => exact zd))
      | ((with_reducible refine Im.vget z44 ?_ ?_ ?_); (next => exact zd); (next => exact zd))
      | ((with_reducible refine Im.vget z124 ?_ ?_ ?_); (next => exact zd); (next => exact zd))
      | ((with_reducible refine Im.vget z66 ?_ ?_ ?_); (next => exact zd); (next => exact zd))
      | ((with_reducible refine Im.vget z97 ?_ ?_ ?_); (next => exact zd); (next => exact zd))
      | ((with_reducible refine Im.vget (0 : Int) ?_ ?_ ?_); (next => exact zd); (next => exact zd))
      | ((with_reducible refine Im.vget false ?_ ?_ ?_); (next => exact zd); (next => exact zd))
      | exact zm | exact zx | fail)
  all_goals skip
theorem laws_szSumS.vi {k m : Nat} (hm : k + 2 ≤ m) (l0 : List (S124)) (a1 : Int) : Im (fun r => (.int r, [])) (laws_szSumS.f k l0 a1) (cv m 73 [.sl (l0.map e124), .int a1]) := by
  obtain ⟨m, rfl⟩ : ∃ m', m = m' + 1 := ⟨m - 1, by omega⟩
  rw [show cv (m + 1) 73 _ = _ from callv_enter rfl Tryz.func73 (by kernel_rfl) rfl rfl]
  unfold laws_szSumS.f
  repeat' first
    | (with_reducible first | exact Im.none | refine Im.ite (fun h => ?_) (fun h => ?_) | refine Im.sbind ?_)
    | ((conv => arg 3; whnf); first
      | ((with_reducible refine Im.fin ?_); exact zr)
      | ((with_reducible refine Im.anyo ?_ ?_); (next => kernel_rfl))
      | ((with_reducible refine Im.bite_t ?_ ?_); (next => exact zd))
      | ((with_reducible refine Im.must ?_ ?_); (next => exact zd))
      | ((with_reducible refine Im.bite_f ?_ ?_); (next => exact zd))
      | (with_reducible refine Im.byl ?_)
      | ((with_reducible refine Im.vget ByteArray.empty ?_ ?_ ?_); (next => exact zd); (next => exact zd))
      | ((with_reducible refine Im.vget z51 ?_ ?_ ?_); (next => exact zd); (next => exact zd))
      | ((with_reducible refine Im.vget z44 ?_ ?_ ?_); (next => exact zd); (next => exact zd))
      | ((with_reducible refine Im.vget z124 ?_ ?_ ?_); (next => exact zd); (next => exact zd))
      | ((with_reducible refine Im.vget z66 ?_ ?_ ?_); (next => exact zd); (next => exact zd))
      | ((with_reducible refine Im.vget z97 ?_ ?_ ?_); (next => exact zd); (next => exact zd))
      | ((with_reducible refine Im.vget (0 : Int) ?_ ?_ ?_); (next => exact zd); (next => exact zd))
      | ((with_reducible refine Im.vget false ?_ ?_ ?_); (next => exact zd); (next => exact zd))
      | ((with_reducible refine Im.call (laws_szSum.vi ?_ _ _ _) ?_ (fun r hr => ?_)); (next => omega); (next => exact zr))
      | ((with_reducible refine Im.loop (S := fun s : List (S124) × Int × Int => [.sl (s.1.map e124), .int s.2.1, .un, .un, .un, .int s.2.2, .un, .un, .un, .un, .un, .un, .un, .un, .un, .un, .un, .un, .un, .un, .un, .un, .un, .un, .un, .un, .un]) (L := fun k s => laws_szSumS.l0 k s.1 s.2.1 s.2.2) _ ?_ ?_ _ _ ⟨_, _, _⟩ _ (Nat.le_refl _) zo ?_)
         (next => intro s; rfl)
         (next =>
           intro k1 M1 ⟨x0, x1, x5⟩ hk1 hM1 ih1
           conv => arg 2; simp only [laws_szSumS.l0]
           repeat' first
             | (with_reducible first | exact Im.none | refine Im.ite (fun h => ?_) (fun h => ?_) | refine Im.sbind ?_)
             | ((conv => arg 3; whnf); first
               | ((with_reducible refine Im.fin ?_); exact zr)
               | ((with_reducible refine Im.anyo ?_ ?_); (next => kernel_rfl))
               | ((with_reducible refine Im.bite_t ?_ ?_); (next => exact zd))
               | ((with_reducible refine Im.must ?_ ?_); (next => exact zd))
               | ((with_reducible refine Im.bite_f ?_ ?_); (next => exact zd))
               | (with_reducible refine Im.byl ?_)
               | ((with_reducible refine Im.vget ByteArray.empty ?_ ?_ ?_); (next => exact zd); (next => exact zd))
               | ((with_reducible refine Im.vget z51 ?_ ?_ ?_); (next => exact zd); (next => exact zd))
               | ((with_reducible refine Im.vget z44 ?_ ?_ ?_); (next => exact zd); (next => exact zd))
               | ((with_reducible refine Im.vget z124 ?_ ?_ ?_); (next => exact zd); (next => exact zd))
               | ((with_reducible refine Im.vget z66 ?_ ?_ ?_); (next => exact zd); (next => exact zd))
               | ((with_reducible refine Im.vget z97 ?_ ?_ ?_); (next => exact zd); (next => exact zd))
               | ((with_reducible refine Im.vget (0 : Int) ?_ ?_ ?_); (next => exact zd); (next => exact zd))
               | ((with_reducible refine Im.vget false ?_ ?_ ?_); (next => exact zd); (next => exact zd))
               | ((with_reducible refine Im.call (laws_szSum.vi ?_ _ _ _) ?_ (fun r hr => ?_)); (next => omega); (next => exact zr))
               | ((with_reducible refine ih1 _ ⟨_, _, _⟩ _ ?_ ?_); (next => exact zo); exact zr)
               | exact zm | exact zx | fail)
           all_goals skip)
         exact zr)
      | exact zm | exact zx | fail)
  all_goals skip
theorem laws_szPack.vi {k m : Nat} (hm : k + 3 ≤ m) (a0_0 : ByteArray) (a0_1 : ByteArray) (a0_2 : ByteArray) (l0_3 : List (S124)) (a0_4 : Bool) (l0_5 : List ByteArray) (a1 : Int) : Im (fun r => (.int r, [])) (laws_szPack.f k a0_0 a0_1 a0_2 l0_3 a0_4 l0_5 a1) (cv m 44 [.ag [.str a0_0, .str a0_1, .str a0_2, .sl (l0_3.map e124), .bool a0_4, .sl (l0_5.map VV.str)], .int a1]) := by
  obtain ⟨m, rfl⟩ : ∃ m', m = m' + 1 := ⟨m - 1, by omega⟩
  rw [show cv (m + 1) 44 _ = _ from callv_enter rfl Tryz.func44 (by kernel_rfl) rfl rfl]
  unfold laws_szPack.f
  repeat' first
    | (with_reducible first | exact Im.none | refine Im.ite (fun h => ?_) (fun h => ?_) | refine Im.sbind ?_)
    | ((conv => arg 3; whnf); first
      | ((with_reducible refine Im.fin ?_); exact zr)
      | ((with_reducible refine Im.anyo ?_ ?_); (next => kernel_rfl))
      | ((with_reducible refine Im.bite_t ?_ ?_); (next => exact zd))
      | ((with_reducible refine Im.must ?_ ?_); (next => exact zd))
      | ((with_reducible refine Im.bite_f ?_ ?_); (next => exact zd))
      | (with_reducible refine Im.byl ?_)
      | ((with_reducible refine Im.vget ByteArray.empty ?_ ?_ ?_); (next => exact zd); (next => exact zd))
      | ((with_reducible refine Im.vget z51 ?_ ?_ ?_); (next => exact zd); (next => exact zd))
      | ((with_reducible refine Im.vget z44 ?_ ?_ ?_); (next => exact zd); (next => exact zd))
      | ((with_reducible refine Im.vget z124 ?_ ?_ ?_); (next => exact zd); (next => exact zd))
      | ((with_reducible refine Im.vget z66 ?_ ?_ ?_); (next => exact zd); (next => exact zd))
      | ((with_reducible refine Im.vget z97 ?_ ?_ ?_); (next => exact zd); (next => exact zd))
      | ((with_reducible refine Im.vget (0 : Int) ?_ ?_ ?_); (next => exact zd); (next => exact zd))
      | ((with_reducible refine Im.vget false ?_ ?_ ?_); (next => exact zd); (next => exact zd))
      | ((with_reducible refine Im.call (laws_szStringS.vi ?_ _ _) ?_ (fun r hr => ?_)); (next => omega); (next => exact zr))
      | ((with_reducible refine Im.call (laws_szSumS.vi ?_ _ _) ?_ (fun r hr => ?_)); (next => omega); (next => exact zr))
      | exact zm | exact zx | fail)
  all_goals skip
theorem laws_szPackS.vi {k m : Nat} (hm : k + 4 ≤ m) (l0 : List (S66)) (a1 : Int) : Im (fun r => (.int r, [])) (laws_szPackS.f k l0 a1) (cv m 23 [.sl (l0.map e66), .int a1]) := by
  obtain ⟨m, rfl⟩ : ∃ m', m = m' + 1 := ⟨m - 1, by omega⟩
  rw [show cv (m + 1) 23 _ = _ from callv_enter rfl Tryz.func23 (by kernel_rfl) rfl rfl]
  unfold laws_szPackS.f
  repeat' first
    | (with_reducible first | exact Im.none | refine Im.ite (fun h => ?_) (fun h => ?_) | refine Im.sbind ?_)
    | ((conv => arg 3; whnf); first
      | ((with_reducible refine Im.fin ?_); exact zr)
      | ((with_reducible refine Im.anyo ?_ ?_); (next => kernel_rfl))
      | ((with_reducible refine Im.bite_t ?_ ?_); (next => exact zd))
      | ((with_reducible refine Im.must ?_ ?_); (next => exact zd))
      | ((with_reducible refine Im.bite_f ?_ ?_); (next => exact zd))
      | (with_reducible refine Im.byl ?_)
      | ((with_reducible refine Im.vget ByteArray.empty ?_ ?_ ?_); (next => exact zd); (next => exact zd))
      | ((with_reducible refine Im.vget z51 ?_ ?_ ?_); (next => exact zd); (next => exact zd))
      | ((with_reducible refine Im.vget z44 ?_ ?_ ?_); (next => exact zd); (next => exact zd))
      | ((with_reducible refine Im.vget z124 ?_ ?_ ?_); (next => exact zd); (next => exact zd))
      | ((with_reducible refine Im.vget z66 ?_ ?_ ?_); (next => exact zd); (next => exact zd))
      | ((with_reducible refine Im.vget z97 ?_ ?_ ?_); (next => exact zd); (next => exact zd))
      | ((with_reducible refine Im.vget (0 : Int) ?_ ?_ ?_); (next => exact zd); (next => exact zd))
      | ((with_reducible refine Im.vget false ?_ ?_ ?_); (next => exact zd); (next => exact zd))
      | ((with_reducible refine Im.call (laws_szPack.vi ?_ _ _ _ _ _ _ _) ?_ (fun r hr => ?_)); (next => omega); (next => exact zr))
      | ((with_reducible refine Im.loop (S := fun s : List (S66) × Int × Int => [.sl (s.1.map e66), .int s.2.1, .un, .un, .un, .int s.2.2, .un, .un, .un, .un, .un, .un, .un, .un, .un, .un, .un, .un, .un, .un, .un, .un, .un, .un, .un, .un, .un]) (L := fun k s => laws_szPackS.l0 k s.1 s.2.1 s.2.2) _ ?_ ?_ _ _ ⟨_, _, _⟩ _ (Nat.le_refl _) zo ?_)
         (next => intro s; rfl)
         (next =>
           intro k1 M1 ⟨x0, x1, x5⟩ hk1 hM1 ih1
           conv => arg 2; simp only [laws_szPackS.l0]
           repeat' first
             | (with_reducible first | exact Im.none | refine Im.ite (fun h => ?_) (fun h => ?_) | refine Im.sbind ?_)
             | ((conv => arg 3; whnf); first
               | ((with_reducible refine Im.fin ?_); exact zr)
               | ((with_reducible refine Im.anyo ?_ ?_); (next => kernel_rfl))
               | ((with_reducible refine Im.bite_t ?_ ?_); (next => exact zd))
               | ((with_reducible refine Im.must ?_ ?_); (next => exact zd))
               | ((with_reducible refine Im.bite_f ?_ ?_); (next => exact zd))
               | (with_reducible refine Im.byl ?_)
               | ((with_reducible refine Im.vget ByteArray.empty ?_ ?_ ?_); (next => exact zd); (next => exact zd))
               | ((with_reducible refine Im.vget z51 ?_ ?_ ?_); (next => exact zd); (next => exact zd))
               | ((with_reducible refine Im.vget z44 ?_ ?_ ?_); (next => exact zd); (next => exact zd))
               | ((with_reducible refine Im.vget z124 ?_ ?_ ?_); (next => exact zd); (next => exact zd))
               | ((with_reducible refine Im.vget z66 ?_ ?_ ?_); (next => exact zd); (next => exact zd))
               | ((with_reducible refine Im.vget z97 ?_ ?_ ?_); (next => exact zd); (next => exact zd))
               | ((with_reducible refine Im.vget (0 : Int) ?_ ?_ ?_); (next => exact zd); (next => exact zd))
               | ((with_reducible refine Im.vget false ?_ ?_ ?_); (next => exact zd); (next => exact zd))
               | ((with_reducible refine Im.call (laws_szPack.vi ?_ _ _ _ _ _ _ _) ?_ (fun r hr => ?_)); (next => omega); (next => exact zr))
               | ((with_reducible refine ih1 _ ⟨_, _, _⟩ _ ?_ ?_); (next => exact zo); exact zr)
               | exact zm | exact zx | fail)
           all_goals skip)
         exact zr)
      | exact zm | exact zx | fail)
  all_goals skip
theorem laws_szGraph.vi {k m : Nat} (hm : k + 5 ≤ m) (l0_0 : List ByteArray) (l0_1 : List (S66)) (a1 : Int) : Im (fun r => (.int r, [])) (laws_szGraph.f k l0_0 l0_1 a1) (cv m 7 [.ag [.sl (l0_0.map VV.str), .sl (l0_1.map e66)], .int a1]) := by
  obtain ⟨m, rfl⟩ : ∃ m', m = m' + 1 := ⟨m - 1, by omega⟩
  rw [show cv (m + 1) 7 _ = _ from callv_enter rfl Tryz.func7 (by kernel_rfl) rfl rfl]
  unfold laws_szGraph.f
  repeat' first
    | (with_reducible first | exact Im.none | refine Im.ite (fun h => ?_) (fun h => ?_) | refine Im.sbind ?_)
    | ((conv => arg 3; whnf); first
      | ((with_reducible refine Im.fin ?_); exact zr)
      | ((with_reducible refine Im.anyo ?_ ?_); (next => kernel_rfl))
      | ((with_reducible refine Im.bite_t ?_ ?_); (next => exact zd))
      | ((with_reducible refine Im.must ?_ ?_); (next => exact zd))
      | ((with_reducible refine Im.bite_f ?_ ?_); (next => exact zd))
      | (with_reducible refine Im.byl ?_)
      | ((with_reducible refine Im.vget ByteArray.empty ?_ ?_ ?_); (next => exact zd); (next => exact zd))
      | ((with_reducible refine Im.vget z51 ?_ ?_ ?_); (next => exact zd); (next => exact zd))
      | ((with_reducible refine Im.vget z44 ?_ ?_ ?_); (next => exact zd); (next => exact zd))
      | ((with_reducible refine Im.vget z124 ?_ ?_ ?_); (next => exact zd); (next => exact zd))
      | ((with_reducible refine Im.vget z66 ?_ ?_ ?_); (next => exact zd); (next => exact zd))
      | ((with_reducible refine Im.vget z97 ?_ ?_ ?_); (next => exact zd); (next => exact zd))
      | ((with_reducible refine Im.vget (0 : Int) ?_ ?_ ?_); (next => exact zd); (next => exact zd))
      | ((with_reducible refine Im.vget false ?_ ?_ ?_); (next => exact zd); (next => exact zd))
      | ((with_reducible refine Im.call (laws_szPackS.vi ?_ _ _) ?_ (fun r hr => ?_)); (next => omega); (next => exact zr))
      | ((with_reducible refine Im.call (laws_szStringS.vi ?_ _ _) ?_ (fun r hr => ?_)); (next => omega); (next => exact zr))
      | exact zm | exact zx | fail)
  all_goals skip
theorem laws_toStringS.vi {k m : Nat} (hm : k + 1 ≤ m) (l0 : List ByteArray) : Im (fun r => (.ow 9 1 (r.map VV.str), [])) (laws_toStringS.f k l0) (cv m 16 [.sl (l0.map VV.str)]) := by
  obtain ⟨m, rfl⟩ : ∃ m', m = m' + 1 := ⟨m - 1, by omega⟩
  rw [show cv (m + 1) 16 _ = _ from callv_enter rfl Tryz.func16 (by kernel_rfl) rfl rfl]
  unfold laws_toStringS.f
  repeat' first
    | (with_reducible first | exact Im.none | refine Im.ite (fun h => ?_) (fun h => ?_) | refine Im.sbind ?_)
    | ((conv => arg 3; whnf); first
      | ((with_reducible refine Im.fin ?_); exact zr)
      | ((with_reducible refine Im.anyo ?_ ?_); (next => kernel_rfl))
      | ((with_reducible refine Im.bite_t ?_ ?_); (next => exact zd))
      | ((with_reducible refine Im.must ?_ ?_); (next => exact zd))
      | ((with_reducible refine Im.bite_f ?_ ?_); (next => exact zd))
      | (with_reducible refine Im.byl ?_)
      | ((with_reducible refine Im.vget ByteArray.empty ?_ ?_ ?_); (next => exact zd); (next => exact zd))
      | ((with_reducible refine Im.vget z51 ?_ ?_ ?_); (next => exact zd); (next => exact zd))
      | ((with_reducible refine Im.vget z44 ?_ ?_ ?_); (next => exact zd); (next => exact zd))
      | ((with_reducible refine Im.vget z124 ?_ ?_ ?_); (next => exact zd); (next => exact zd))
      | ((with_reducible refine Im.vget z66 ?_ ?_ ?_); (next => exact zd); (next => exact zd))
      | ((with_reducible refine Im.vget z97 ?_ ?_ ?_); (next => exact zd); (next => exact zd))
      | ((with_reducible refine Im.vget (0 : Int) ?_ ?_ ?_); (next => exact zd); (next => exact zd))
      | ((with_reducible refine Im.vget false ?_ ?_ ?_); (next => exact zd); (next => exact zd))
      | ((with_reducible refine Im.loop (S := fun s : List ByteArray × List ByteArray × Int => [.sl (s.1.map VV.str), .un, .un, .sr 7 s.2.1.length, .int s.2.2, .un, .un, .mr 9 1 (s.2.1.map VV.str), .un, .un, .un, .un, .un, .un, .un, .un, .un, .un, .un, .un, .un, .un]) (L := fun k s => laws_toStringS.l0 k s.1 s.2.1 s.2.2) _ ?_ ?_ _ _ ⟨_, _, _⟩ _ (Nat.le_refl _) zo ?_)
         (next => intro s; rfl)
         (next =>
           intro k1 M1 ⟨x0, x3, x4⟩ hk1 hM1 ih1
           conv => arg 2; simp only [laws_toStringS.l0]
           repeat' first
             | (with_reducible first | exact Im.none | refine Im.ite (fun h => ?_) (fun h => ?_) | refine Im.sbind ?_)
             | ((conv => arg 3; whnf); first
               | ((with_reducible refine Im.fin ?_); exact zr)
               | ((with_reducible refine Im.anyo ?_ ?_); (next => kernel_rfl))
               | ((with_reducible refine Im.bite_t ?_ ?_); (next => exact zd))
               | ((with_reducible refine Im.must ?_ ?_); (next => exact zd))
               | ((with_reducible refine Im.bite_f ?_ ?_); (next => exact zd))
               | (with_reducible refine Im.byl ?_)
               | ((with_reducible refine Im.vget ByteArray.empty ?_ ?_ ?_); (next => exact zd); (next => exact zd))
               | ((with_reducible refine Im.vget z51 ?_ ?_ ?_); (next => exact zd); (next => exact zd))
               | ((with_reducible refine Im.vget z44 ?_ ?_ ?_); (next => exact zd); (next => exact zd))
               | ((with_reducible refine Im.vget z124 ?_ ?_ ?_); (next => exact zd); (next => exact zd))
               | ((with_reducible refine Im.vget z66 ?_ ?_ ?_); (next => exact zd); (next => exact zd))
               | ((with_reducible refine Im.vget z97 ?_ ?_ ?_); (next => exact zd); (next => exact zd))
               | ((with_reducible refine Im.vget (0 : Int) ?_ ?_ ?_); (next => exact zd); (next => exact zd))
               | ((with_reducible refine Im.vget false ?_ ?_ ?_); (next => exact zd); (next => exact zd))
               | ((with_reducible refine ih1 _ ⟨_, _, _⟩ _ ?_ ?_); (next => exact zo); exact zr)
               | exact zm | exact zx | fail)
           all_goals skip)
         exact zr)
      | exact zm | exact zx | fail)
  all_goals skip
theorem laws_toSum.vi {m : Nat} (hm : 1 ≤ m) (a0_0 : ByteArray) (a0_1 : ByteArray) : Im (fun r => (.ag [.str r.1, .str r.2], [])) (laws_toSum.f a0_0 a0_1) (cv m 115 [.ag [.str a0_0, .str a0_1]]) := by
  obtain ⟨m, rfl⟩ : ∃ m', m = m' + 1 := ⟨m - 1, by omega⟩
  rw [show cv (m + 1) 115 _ = _ from callv_enter rfl Tryz.func115 (by kernel_rfl) rfl rfl]
  unfold laws_toSum.f
  repeat' first
    | (with_reducible first | exact Im.none | refine Im.ite (fun h => ?_) (fun h => ?_) | refine Im.sbind ?_)
    | ((conv => arg 3; whnf); first
      | ((with_reducible refine Im.fin ?_); exact zr)
      | ((with_reducible refine Im.anyo ?_ ?_); (next => kernel_rfl))
      | ((with_reducible refine Im.bite_t ?_ ?_); (next => exact zd))
      | ((with_reducible refine Im.must ?_ ?_); (next => exact zd))
      | ((with_reducible refine Im.bite_f ?_ ?_); (next => exact zd))
      | (with_reducible refine Im.byl ?_)
      | ((with_reducible refine Im.vget ByteArray.empty ?_ ?_ ?_); (next => exact zd); (next => exact zd))
      | ((with_reducible refine Im.vget z51 ?_ ?_ ?_); (next => exact zd); (next => exact zd))
      | ((with_reducible refine Im.vget z44 ?_ ?_ ?_); (next => exact zd); (next => exact zd))
      | ((with_reducible refine Im.vget z124 ?_ ?_ ?_); (next => exact zd); (next => exact zd))
      | ((with_reducible refine Im.vget z66 ?_ ?_ ?_); (next => exact zd); (next => exact zd))
      | ((with_reducible refine Im.vget z97 ?_ ?_ ?_); (next => exact zd); (next => exact zd))
      | ((with_reducible refine Im.vget (0 : Int) ?_ ?_ ?_); (next => exact zd); (next => exact zd))
      | ((with_reducible refine Im.vget false ?_ ?_ ?_); (next => exact zd); (next => exact zd))
      | exact zm | exact zx | fail)
  all_goals skip
theorem laws_toSumS.vi {k m : Nat} (hm : k + 2 ≤ m) (l0 : List (S124)) : Im (fun r => (.ow 51 2 (r.map e51), [])) (laws_toSumS.f k l0) (cv m 77 [.sl (l0.map e124)]) := by
  obtain ⟨m, rfl⟩ : ∃ m', m = m' + 1 := ⟨m - 1, by omega⟩
  rw [show cv (m + 1) 77 _ = _ from callv_enter rfl Tryz.func77 (by kernel_rfl) rfl rfl]
  unfold laws_toSumS.f
  repeat' first
    | (with_reducible first | exact Im.none | refine Im.ite (fun h => ?_) (fun h => ?_) | refine Im.sbind ?_)
    | ((conv => arg 3; whnf); first
      | ((with_reducible refine Im.fin ?_); exact zr)
      | ((with_reducible refine Im.anyo ?_ ?_); (next => kernel_rfl))
      | ((with_reducible refine Im.bite_t ?_ ?_); (next => exact zd))
      | ((with_reducible refine Im.must ?_ ?_); (next => exact zd))
      | ((with_reducible refine Im.bite_f ?_ ?_); (next => exact zd))
      | (with_reducible refine Im.byl ?_)
      | ((with_reducible refine Im.vget ByteArray.empty ?_ ?_ ?_); (next => exact zd); (next => exact zd))
      | ((with_reducible refine Im.vget z51 ?_ ?_ ?_); (next => exact zd); (next => exact zd))
      | ((with_reducible refine Im.vget z44 ?_ ?_ ?_); (next => exact zd); (next => exact zd))
      | ((with_reducible refine Im.vget z124 ?_ ?_ ?_); (next => exact zd); (next => exact zd))
      | ((with_reducible refine Im.vget z66 ?_ ?_ ?_); (next => exact zd); (next => exact zd))
      | ((with_reducible refine Im.vget z97 ?_ ?_ ?_); (next => exact zd); (next => exact zd))
      | ((with_reducible refine Im.vget (0 : Int) ?_ ?_ ?_); (next => exact zd); (next => exact zd))
      | ((with_reducible refine Im.vget false ?_ ?_ ?_); (next => exact zd); (next => exact zd))
      | ((with_reducible refine Im.call (laws_toSum.vi ?_ _ _) ?_ (fun r hr => ?_)); (next => omega); (next => exact zr))
      | ((with_reducible refine Im.loop (S := fun s : List (S124) × List (S51) × Int => [.sl (s.1.map e124), .un, .un, .sr 7 s.2.1.length, .int s.2.2, .un, .un, .mr 51 2 (s.2.1.map e51), .un, .un, .un, .un, .un, .un, .un, .un, .un, .un, .un, .un, .un, .un, .un]) (L := fun k s => laws_toSumS.l0 k s.1 s.2.1 s.2.2) _ ?_ ?_ _ _ ⟨_, _, _⟩ _ (Nat.le_refl _) zo ?_)
         (next => intro s; rfl)
         (next =>
           intro k1 M1 ⟨x0, x3, x4⟩ hk1 hM1 ih1
           conv => arg 2; simp only [laws_toSumS.l0]
           repeat' first
             | (with_reducible first | exact Im.none | refine Im.ite (fun h => ?_) (fun h => ?_) | refine Im.sbind ?_)
             | ((conv => arg 3; whnf); first
               | ((with_reducible refine Im.fin ?_); exact zr)
               | ((with_reducible refine Im.anyo ?_ ?_); (next => kernel_rfl))
               | ((with_reducible refine Im.bite_t ?_ ?_); (next => exact zd))
               | ((with_reducible refine Im.must ?_ ?_); (next => exact zd))
               | ((with_reducible refine Im.bite_f ?_ ?_); (next => exact zd))
               | (with_reducible refine Im.byl ?_)
               | ((with_reducible refine Im.vget ByteArray.empty ?_ ?_ ?_); (next => exact zd); (next => exact zd))
               | ((with_reducible refine Im.vget z51 ?_ ?_ ?_); (next => exact zd); (next => exact zd))
               | ((with_reducible refine Im.vget z44 ?_ ?_ ?_); (next => exact zd); (next => exact zd))
               | ((with_reducible refine Im.vget z124 ?_ ?_ ?_); (next => exact zd); (next => exact zd))
               | ((with_reducible refine Im.vget z66 ?_ ?_ ?_); (next => exact zd); (next => exact zd))
               | ((with_reducible refine Im.vget z97 ?_ ?_ ?_); (next => exact zd); (next => exact zd))
               | ((with_reducible refine Im.vget (0 : Int) ?_ ?_ ?_); (next => exact zd); (next => exact zd))
               | ((with_reducible refine Im.vget false ?_ ?_ ?_); (next => exact zd); (next => exact zd))
               | ((with_reducible refine Im.call (laws_toSum.vi ?_ _ _) ?_ (fun r hr => ?_)); (next => omega); (next => exact zr))
               | ((with_reducible refine ih1 _ ⟨_, _, _⟩ _ ?_ ?_); (next => exact zo); exact zr)
               | exact zm | exact zx | fail)
           all_goals skip)
         exact zr)
      | exact zm | exact zx | fail)
  all_goals skip
theorem laws_toPack.vi {k m : Nat} (hm : k + 3 ≤ m) (a0_0 : ByteArray) (a0_1 : ByteArray) (a0_2 : ByteArray) (l0_3 : List (S124)) (a0_4 : Bool) (l0_5 : List ByteArray) : Im (fun r => (.ag [.str r.1, .str r.2.1, .str r.2.2.1, .sl (r.2.2.2.1.map e51), .bool r.2.2.2.2.1, .sl (r.2.2.2.2.2.map VV.str)], [])) (laws_toPack.f k a0_0 a0_1 a0_2 l0_3 a0_4 l0_5) (cv m 50 [.ag [.str a0_0, .str a0_1, .str a0_2, .sl (l0_3.map e124), .bool a0_4, .sl (l0_5.map VV.str)]]) := by
  obtain ⟨m, rfl⟩ : ∃ m', m = m' + 1 := ⟨m - 1, by omega⟩
  rw [show cv (m + 1) 50 _ = _ from callv_enter rfl Tryz.func50 (by kernel_rfl) rfl rfl]
  unfold laws_toPack.f
  repeat' first
    | (with_reducible first | exact Im.none | refine Im.ite (fun h => ?_) (fun h => ?_) | refine Im.sbind ?_)
    | ((conv => arg 3; whnf); first
      | ((with_reducible refine Im.fin ?_); exact zr)
      | ((with_reducible refine Im.anyo ?_ ?_); (next => kernel_rfl))
      | ((with_reducible refine Im.bite_t ?_ ?_); (next => exact zd))
      | ((with_reducible refine Im.must ?_ ?_); (next => exact zd))
      | ((with_reducible refine Im.bite_f ?_ ?_); (next => exact zd))
      | (with_reducible refine Im.byl ?_)
      | ((with_reducible refine Im.vget ByteArray.empty ?_ ?_ ?_); (next => exact zd); (next => exact zd))
      | ((with_reducible refine Im.vget z51 ?_ ?_ ?_); (next => exact zd); (next => exact zd))
      | ((with_reducible refine Im.vget z44 ?_ ?_ ?_); (next => exact zd); (next => exact zd))
      | ((with_reducible refine Im.vget z124 ?_ ?_ ?_); (next => exact zd); (next => exact zd))
      | ((with_reducible refine Im.vget z66 ?_ ?_ ?_); (next => exact zd); (next => exact zd))
      | ((with_reducible refine Im.vget z97 ?_ ?_ ?_); (next => exact zd); (next => exact zd))
      | ((with_reducible refine Im.vget (0 : Int) ?_ ?_ ?_); (next => exact zd); (next => exact zd))
      | ((with_reducible refine Im.vget false ?_ ?_ ?_); (next => exact zd); (next => exact zd))
      | ((with_reducible refine Im.call (laws_toStringS.vi ?_ _) ?_ (fun r hr => ?_)); (next => omega); (next => exact zr))
      | ((with_reducible refine Im.call (laws_toSumS.vi ?_ _) ?_ (fun r hr => ?_)); (next => omega); (next => exact zr))
      | exact zm | exact zx | fail)
  all_goals skip
theorem laws_toPackS.vi {k m : Nat} (hm : k + 4 ≤ m) (l0 : List (S66)) : Im (fun r => (.ow 44 6 (r.map e44), [])) (laws_toPackS.f k l0) (cv m 27 [.sl (l0.map e66)]) := by
  obtain ⟨m, rfl⟩ : ∃ m', m = m' + 1 := ⟨m - 1, by omega⟩
  rw [show cv (m + 1) 27 _ = _ from callv_enter rfl Tryz.func27 (by kernel_rfl) rfl rfl]
  unfold laws_toPackS.f
  repeat' first
    | (with_reducible first | exact Im.none | refine Im.ite (fun h => ?_) (fun h => ?_) | refine Im.sbind ?_)
    | ((conv => arg 3; whnf); first
      | ((with_reducible refine Im.fin ?_); exact zr)
      | ((with_reducible refine Im.anyo ?_ ?_); (next => kernel_rfl))
      | ((with_reducible refine Im.bite_t ?_ ?_); (next => exact zd))
      | ((with_reducible refine Im.must ?_ ?_); (next => exact zd))
      | ((with_reducible refine Im.bite_f ?_ ?_); (next => exact zd))
      | (with_reducible refine Im.byl ?_)
      | ((with_reducible refine Im.vget ByteArray.empty ?_ ?_ ?_); (next => exact zd); (next => exact zd))
      | ((with_reducible refine Im.vget z51 ?_ ?_ ?_); (next => exact zd); (next => exact zd))
      | ((with_reducible refine Im.vget z44 ?_ ?_ ?_); (next => exact zd); (next => exact zd))
      | ((with_reducible refine Im.vget z124 ?_ ?_ ?_); (next => exact zd); (next => exact zd))
      | ((with_reducible refine Im.vget z66 ?_ ?_ ?_); (next => exact zd); (next => exact zd))
      | ((with_reducible refine Im.vget z97 ?_ ?_ ?_); (next => exact zd); (next => exact zd))
      | ((with_reducible refine Im.vget (0 : Int) ?_ ?_ ?_); (next => exact zd); (next => exact zd))
      | ((with_reducible refine Im.vget false ?_ ?_ ?_); (next => exact zd); (next => exact zd))
      | ((with_reducible refine Im.call (laws_toPack.vi ?_ _ _ _ _ _ _) ?_ (fun r hr => ?_)); (next => omega); (next => exact zr))
      | ((with_reducible refine Im.loop (S := fun s : List (S66) × List (S44) × Int => [.sl (s.1.map e66), .un, .un, .sr 7 s.2.1.length, .int s.2.2, .un, .un, .mr 44 6 (s.2.1.map e44), .un, .un, .un, .un, .un, .un, .un, .un, .un, .un, .un, .un, .un, .un, .un]) (L := fun k s => laws_toPackS.l0 k s.1 s.2.1 s.2.2) _ ?_ ?_ _ _ ⟨_, _, _⟩ _ (Nat.le_refl _) zo ?_)
         (next => intro s; rfl)
         (next =>
           intro k1 M1 ⟨x0, x3, x4⟩ hk1 hM1 ih1
           conv => arg 2; simp only [laws_toPackS.l0]
           repeat' first
             | (with_reducible first | exact Im.none | refine Im.ite (fun h => ?_) (fun h => ?_) | refine Im.sbind ?_)
             | ((conv => arg 3; whnf); first
               | ((with_reducible refine Im.fin ?_); exact zr)
               | ((with_reducible refine Im.anyo ?_ ?_); (next => kernel_rfl))
               | ((with_reducible refine Im.bite_t ?_ ?_); (next => exact zd))
               | ((with_reducible refine Im.must ?_ ?_); (next => exact zd))
               | ((with_reducible refine Im.bite_f ?_ ?_); (next => exact zd))
               | (with_reducible refine Im.byl ?_)
               | ((with_reducible refine Im.vget ByteArray.empty ?_ ?_ ?_); (next => exact zd); (next => exact zd))
               | ((with_reducible refine Im.vget z51 ?_ ?_ ?_); (next => exact zd); (next => exact zd))
               | ((with_reducible refine Im.vget z44 ?_ ?_ ?_); (next => exact zd); (next => exact zd))
               | ((with_reducible refine Im.vget z124 ?_ ?_ ?_); (next => exact zd); (next => exact zd))
               | ((with_reducible refine Im.vget z66 ?_ ?_ ?_); (next => exact zd); (next => exact zd))
               | ((with_reducible refine Im.vget z97 ?_ ?_ ?_); (next => exact zd); (next => exact zd))
               | ((with_reducible refine Im.vget (0 : Int) ?_ ?_ ?_); (next => exact zd); (next => exact zd))
               | ((with_reducible refine Im.vget false ?_ ?_ ?_); (next => exact zd); (next => exact zd))
               | ((with_reducible refine Im.call (laws_toPack.vi ?_ _ _ _ _ _ _) ?_ (fun r hr => ?_)); (next => omega); (next => exact zr))
               | ((with_reducible refine ih1 _ ⟨_, _, _⟩ _ ?_ ?_); (next => exact zo); exact zr)
               | exact zm | exact zx | fail)
           all_goals skip)
         exact zr)
      | exact zm | exact zx | fail)
  all_goals skip
theorem laws_toGraph.vi {k m : Nat} (hm : k + 5 ≤ m) (l0_0 : List ByteArray) (l0_1 : List (S66)) : Im (fun r => (.ag [.sl (r.1.map VV.str), .sl (r.2.map e44)], [])) (laws_toGraph.f k l0_0 l0_1) (cv m 9 [.ag [.sl (l0_0.map VV.str), .sl (l0_1.map e66)]]) := by
  obtain ⟨m, rfl⟩ : ∃ m', m = m' + 1 := ⟨m - 1, by omega⟩
  rw [show cv (m + 1) 9 _ = _ from callv_enter rfl Tryz.func9 (by kernel_rfl) rfl rfl]
  unfold laws_toGraph.f
  repeat' first
    | (with_reducible first | exact Im.none | refine Im.ite (fun h => ?_) (fun h => ?_) | refine Im.sbind ?_)
    | ((conv => arg 3; whnf); first
      | ((with_reducible refine Im.fin ?_); exact zr)
      | ((with_reducible refine Im.anyo ?_ ?_); (next => kernel_rfl))
      | ((with_reducible refine Im.bite_t ?_ ?_); (next => exact zd))
      | ((with_reducible refine Im.must ?_ ?_); (next => exact zd))
      | ((with_reducible refine Im.bite_f ?_ ?_); (next => exact zd))
      | (with_reducible refine Im.byl ?_)
      | ((with_reducible refine Im.vget ByteArray.empty ?_ ?_ ?_); (next => exact zd); (next => exact zd))
      | ((with_reducible refine Im.vget z51 ?_ ?_ ?_); (next => exact zd); (next => exact zd))
      | ((with_reducible refine Im.vget z44 ?_ ?_ ?_); (next => exact zd); (next => exact zd))
      | ((with_reducible refine Im.vget z124 ?_ ?_ ?_); (next => exact zd); (next => exact zd))
      | ((with_reducible refine Im.vget z66 ?_ ?_ ?_); (next => exact zd); (next => exact zd))
      | ((with_reducible refine Im.vget z97 ?_ ?_ ?_); (next => exact zd); (next => exact zd))
      | ((with_reducible refine Im.vget (0 : Int) ?_ ?_ ?_); (next => exact zd); (next => exact zd))
      | ((with_reducible refine Im.vget false ?_ ?_ ?_); (next => exact zd); (next => exact zd))
      | ((with_reducible refine Im.call (laws_toPackS.vi ?_ _) ?_ (fun r hr => ?_)); (next => omega); (next => exact zr))
      | ((with_reducible refine Im.call (laws_toStringS.vi ?_ _) ?_ (fun r hr => ?_)); (next => omega); (next => exact zr))
      | exact zm | exact zx | fail)
  all_goals skip
theorem spec_KeyOf.vi {m : Nat} (hm : 1 ≤ m) (a0_0 : ByteArray) (a0_1 : ByteArray) (a0_2 : ByteArray) (l0_3 : List (S51)) (a0_4 : Bool) (l0_5 : List ByteArray) : Im (fun r => (.str r, [])) (spec_KeyOf.f a0_0 a0_1 a0_2 l0_3 a0_4 l0_5) (cv m 26 [.ag [.str a0_0, .str a0_1, .str a0_2, .sl (l0_3.map e51), .bool a0_4, .sl (l0_5.map VV.str)]]) := by
  obtain ⟨m, rfl⟩ : ∃ m', m = m' + 1 := ⟨m - 1, by omega⟩
  rw [show cv (m + 1) 26 _ = _ from callv_enter rfl Tryz.func26 (by kernel_rfl) rfl rfl]
  unfold spec_KeyOf.f
  repeat' first
    | (with_reducible first | exact Im.none | refine Im.ite (fun h => ?_) (fun h => ?_) | refine Im.sbind ?_)
    | ((conv => arg 3; whnf); first
      | ((with_reducible refine Im.fin ?_); exact zr)
      | ((with_reducible refine Im.anyo ?_ ?_); (next => kernel_rfl))
      | ((with_reducible refine Im.bite_t ?_ ?_); (next => exact zd))
      | ((with_reducible refine Im.must ?_ ?_); (next => exact zd))
      | ((with_reducible refine Im.bite_f ?_ ?_); (next => exact zd))
      | (with_reducible refine Im.byl ?_)
      | ((with_reducible refine Im.vget ByteArray.empty ?_ ?_ ?_); (next => exact zd); (next => exact zd))
      | ((with_reducible refine Im.vget z51 ?_ ?_ ?_); (next => exact zd); (next => exact zd))
      | ((with_reducible refine Im.vget z44 ?_ ?_ ?_); (next => exact zd); (next => exact zd))
      | ((with_reducible refine Im.vget z124 ?_ ?_ ?_); (next => exact zd); (next => exact zd))
      | ((with_reducible refine Im.vget z66 ?_ ?_ ?_); (next => exact zd); (next => exact zd))
      | ((with_reducible refine Im.vget z97 ?_ ?_ ?_); (next => exact zd); (next => exact zd))
      | ((with_reducible refine Im.vget (0 : Int) ?_ ?_ ?_); (next => exact zd); (next => exact zd))
      | ((with_reducible refine Im.vget false ?_ ?_ ?_); (next => exact zd); (next => exact zd))
      | exact zm | exact zx | fail)
  all_goals skip
theorem spec_DecText.vi {k m : Nat} (hm : k + 1 ≤ m) (a0 : Int) : Im (fun r => (.str r, [])) (spec_DecText.f k a0) (cv m 98 [.int a0]) := by
  obtain ⟨m, rfl⟩ : ∃ m', m = m' + 1 := ⟨m - 1, by omega⟩
  rw [show cv (m + 1) 98 _ = _ from callv_enter rfl Tryz.func98 (by kernel_rfl) rfl rfl]
  unfold spec_DecText.f
  repeat' first
    | (with_reducible first | exact Im.none | refine Im.ite (fun h => ?_) (fun h => ?_) | refine Im.sbind ?_)
    | ((conv => arg 3; whnf); first
      | ((with_reducible refine Im.fin ?_); exact zr)
      | ((with_reducible refine Im.anyo ?_ ?_); (next => kernel_rfl))
      | ((with_reducible refine Im.bite_t ?_ ?_); (next => exact zd))
      | ((with_reducible refine Im.must ?_ ?_); (next => exact zd))
      | ((with_reducible refine Im.bite_f ?_ ?_); (next => exact zd))
      | (with_reducible refine Im.byl ?_)
      | ((with_reducible refine Im.vget ByteArray.empty ?_ ?_ ?_); (next => exact zd); (next => exact zd))
      | ((with_reducible refine Im.vget z51 ?_ ?_ ?_); (next => exact zd); (next => exact zd))
      | ((with_reducible refine Im.vget z44 ?_ ?_ ?_); (next => exact zd); (next => exact zd))
      | ((with_reducible refine Im.vget z124 ?_ ?_ ?_); (next => exact zd); (next => exact zd))
      | ((with_reducible refine Im.vget z66 ?_ ?_ ?_); (next => exact zd); (next => exact zd))
      | ((with_reducible refine Im.vget z97 ?_ ?_ ?_); (next => exact zd); (next => exact zd))
      | ((with_reducible refine Im.vget (0 : Int) ?_ ?_ ?_); (next => exact zd); (next => exact zd))
      | ((with_reducible refine Im.vget false ?_ ?_ ?_); (next => exact zd); (next => exact zd))
      | ((with_reducible refine Im.loop (S := fun s : Int × ByteArray × Int => [.int s.1, .un, .un, .str s.2.1, .int s.2.2, .un, .un, .un, .un, .un, .un, .un, .un, .un, .un, .un, .un, .un, .un, .un, .un, .un, .un, .un, .un, .un, .un, .un, .un, .un]) (L := fun k s => spec_DecText.l0 k s.1 s.2.1 s.2.2) _ ?_ ?_ _ _ ⟨_, _, _⟩ _ (Nat.le_refl _) zo ?_)
         (next => intro s; rfl)
         (next =>
           intro k1 M1 ⟨x0, x3, x4⟩ hk1 hM1 ih1
           conv => arg 2; simp only [spec_DecText.l0]
           repeat' first
             | (with_reducible first | exact Im.none | refine Im.ite (fun h => ?_) (fun h => ?_) | refine Im.sbind ?_)
             | ((conv => arg 3; whnf); first
               | ((with_reducible refine Im.fin ?_); exact zr)
               | ((with_reducible refine Im.anyo ?_ ?_); (next => kernel_rfl))
               | ((with_reducible refine Im.bite_t ?_ ?_); (next => exact zd))
               | ((with_reducible refine Im.must ?_ ?_); (next => exact zd))
               | ((with_reducible refine Im.bite_f ?_ ?_); (next => exact zd))
               | (with_reducible refine Im.byl ?_)
               | ((with_reducible refine Im.vget ByteArray.empty ?_ ?_ ?_); (next => exact zd); (next => exact zd))
               | ((with_reducible refine Im.vget z51 ?_ ?_ ?_); (next => exact zd); (next => exact zd))
               | ((with_reducible refine Im.vget z44 ?_ ?_ ?_); (next => exact zd); (next => exact zd))
               | ((with_reducible refine Im.vget z124 ?_ ?_ ?_); (next => exact zd); (next => exact zd))
               | ((with_reducible refine Im.vget z66 ?_ ?_ ?_); (next => exact zd); (next => exact zd))
               | ((with_reducible refine Im.vget z97 ?_ ?_ ?_); (next => exact zd); (next => exact zd))
               | ((with_reducible refine Im.vget (0 : Int) ?_ ?_ ?_); (next => exact zd); (next => exact zd))
               | ((with_reducible refine Im.vget false ?_ ?_ ?_); (next => exact zd); (next => exact zd))
               | ((with_reducible refine ih1 _ ⟨_, _, _⟩ _ ?_ ?_); (next => exact zo); exact zr)
               | exact zm | exact zx | fail)
           all_goals skip)
         exact zr)
      | exact zm | exact zx | fail)
  all_goals skip
theorem spec_l01In.vi {m : Nat} (hm : 1 ≤ m) (a0 : Int) (a1 : Int) (a2 : Int) : Im (fun r => (.bool r, [])) (spec_l01In.f a0 a1 a2) (cv m 76 [.int a0, .int a1, .int a2]) := by
  obtain ⟨m, rfl⟩ : ∃ m', m = m' + 1 := ⟨m - 1, by omega⟩
  rw [show cv (m + 1) 76 _ = _ from callv_enter rfl Tryz.func76 (by kernel_rfl) rfl rfl]
  unfold spec_l01In.f
  repeat' first
    | (with_reducible first | exact Im.none | refine Im.ite (fun h => ?_) (fun h => ?_) | refine Im.sbind ?_)
    | ((conv => arg 3; whnf); first
      | ((with_reducible refine Im.fin ?_); exact zr)
      | ((with_reducible refine Im.anyo ?_ ?_); (next => kernel_rfl))
      | ((with_reducible refine Im.bite_t ?_ ?_); (next => exact zd))
      | ((with_reducible refine Im.must ?_ ?_); (next => exact zd))
      | ((with_reducible refine Im.bite_f ?_ ?_); (next => exact zd))
      | (with_reducible refine Im.byl ?_)
      | ((with_reducible refine Im.vget ByteArray.empty ?_ ?_ ?_); (next => exact zd); (next => exact zd))
      | ((with_reducible refine Im.vget z51 ?_ ?_ ?_); (next => exact zd); (next => exact zd))
      | ((with_reducible refine Im.vget z44 ?_ ?_ ?_); (next => exact zd); (next => exact zd))
      | ((with_reducible refine Im.vget z124 ?_ ?_ ?_); (next => exact zd); (next => exact zd))
      | ((with_reducible refine Im.vget z66 ?_ ?_ ?_); (next => exact zd); (next => exact zd))
      | ((with_reducible refine Im.vget z97 ?_ ?_ ?_); (next => exact zd); (next => exact zd))
      | ((with_reducible refine Im.vget (0 : Int) ?_ ?_ ?_); (next => exact zd); (next => exact zd))
      | ((with_reducible refine Im.vget false ?_ ?_ ?_); (next => exact zd); (next => exact zd))
      | exact zm | exact zx | fail)
  all_goals skip
theorem spec_ReadDec.vi {k m : Nat} (hm : k + 2 ≤ m) (a0 : ByteArray) : Im (fun r => (.int r, [])) (spec_ReadDec.f k a0) (cv m 66 [.str a0]) := by
  obtain ⟨m, rfl⟩ : ∃ m', m = m' + 1 := ⟨m - 1, by omega⟩
  rw [show cv (m + 1) 66 _ = _ from callv_enter rfl Tryz.func66 (by kernel_rfl) rfl rfl]
  unfold spec_ReadDec.f
  repeat' first
    | (with_reducible first | exact Im.none | refine Im.ite (fun h => ?_) (fun h => ?_) | refine Im.sbind ?_)
    | ((conv => arg 3; whnf); first
      | ((with_reducible refine Im.fin ?_); exact zr)
      | ((with_reducible refine Im.anyo ?_ ?_); (next => kernel_rfl))
      | ((with_reducible refine Im.bite_t ?_ ?_); (next => exact zd))
      | ((with_reducible refine Im.must ?_ ?_); (next => exact zd))
      | ((with_reducible refine Im.bite_f ?_ ?_); (next => exact zd))
      | (with_reducible refine Im.byl ?_)
      | ((with_reducible refine Im.vget ByteArray.empty ?_ ?_ ?_); (next => exact zd); (next => exact zd))
      | ((with_reducible refine Im.vget z51 ?_ ?_ ?_); (next => exact zd); (next => exact zd))
      | ((with_reducible refine Im.vget z44 ?_ ?_ ?_); (next => exact zd); (next => exact zd))
      | ((with_reducible refine Im.vget z124 ?_ ?_ ?_); (next => exact zd); (next => exact zd))
      | ((with_reducible refine Im.vget z66 ?_ ?_ ?_); (next => exact zd); (next => exact zd))
      | ((with_reducible refine Im.vget z97 ?_ ?_ ?_); (next => exact zd); (next => exact zd))
      | ((with_reducible refine Im.vget (0 : Int) ?_ ?_ ?_); (next => exact zd); (next => exact zd))
      | ((with_reducible refine Im.vget false ?_ ?_ ?_); (next => exact zd); (next => exact zd))
      | ((with_reducible refine Im.call (spec_DecText.vi ?_ _) ?_ (fun r hr => ?_)); (next => omega); (next => exact zr))
      | ((with_reducible refine Im.call (spec_l01In.vi ?_ _ _ _) ?_ (fun r hr => ?_)); (next => omega); (next => exact zr))
      | ((with_reducible refine Im.loop (S := fun s : ByteArray × Int × Int => [.str s.1, .un, .un, .int s.2.1, .int s.2.2, .un, .un, .un, .un, .un, .un, .un, .un, .un, .un, .un, .un, .un, .un, .un, .un, .un, .un, .un, .un, .un, .un, .un, .un, .un, .un, .un, .un, .un, .un, .un, .un, .un, .un]) (L := fun k s => spec_ReadDec.l0 k s.1 s.2.1 s.2.2) _ ?_ ?_ _ _ ⟨_, _, _⟩ _ (Nat.le_refl _) zo ?_)
         (next => intro s; rfl)
         (next =>
           intro k1 M1 ⟨x0, x3, x4⟩ hk1 hM1 ih1
           conv => arg 2; simp only [spec_ReadDec.l0]
           repeat' first
             | (with_reducible first | exact Im.none | refine Im.ite (fun h => ?_) (fun h => ?_) | refine Im.sbind ?_)
             | ((conv => arg 3; whnf); first
               | ((with_reducible refine Im.fin ?_); exact zr)
               | ((with_reducible refine Im.anyo ?_ ?_); (next => kernel_rfl))
               | ((with_reducible refine Im.bite_t ?_ ?_); (next => exact zd))
               | ((with_reducible refine Im.must ?_ ?_); (next => exact zd))
               | ((with_reducible refine Im.bite_f ?_ ?_); (next => exact zd))
               | (with_reducible refine Im.byl ?_)
               | ((with_reducible refine Im.vget ByteArray.empty ?_ ?_ ?_); (next => exact zd); (next => exact zd))
               | ((with_reducible refine Im.vget z51 ?_ ?_ ?_); (next => exact zd); (next => exact zd))
               | ((with_reducible refine Im.vget z44 ?_ ?_ ?_); (next => exact zd); (next => exact zd))
               | ((with_reducible refine Im.vget z124 ?_ ?_ ?_); (next => exact zd); (next => exact zd))
               | ((with_reducible refine Im.vget z66 ?_ ?_ ?_); (next => exact zd); (next => exact zd))
               | ((with_reducible refine Im.vget z97 ?_ ?_ ?_); (next => exact zd); (next => exact zd))
               | ((with_reducible refine Im.vget (0 : Int) ?_ ?_ ?_); (next => exact zd); (next => exact zd))
               | ((with_reducible refine Im.vget false ?_ ?_ ?_); (next => exact zd); (next => exact zd))
               | ((with_reducible refine Im.call (spec_DecText.vi ?_ _) ?_ (fun r hr => ?_)); (next => omega); (next => exact zr))
               | ((with_reducible refine Im.call (spec_l01In.vi ?_ _ _ _) ?_ (fun r hr => ?_)); (next => omega); (next => exact zr))
               | ((with_reducible refine ih1 _ ⟨_, _, _⟩ _ ?_ ?_); (next => exact zo); exact zr)
               | exact zm | exact zx | fail)
           all_goals skip)
         exact zr)
      | exact zm | exact zx | fail)
  all_goals skip
theorem spec_l01Great.vi {m : Nat} (hm : 2 ≤ m) (a0 : Int) : Im (fun r => (.bool r, [])) (spec_l01Great.f a0) (cv m 155 [.byte a0]) := by
  obtain ⟨m, rfl⟩ : ∃ m', m = m' + 1 := ⟨m - 1, by omega⟩
  rw [show cv (m + 1) 155 _ = _ from callv_enter rfl Tryz.func155 (by kernel_rfl) rfl rfl]
  unfold spec_l01Great.f
  repeat' first
    | (with_reducible first | exact Im.none | refine Im.ite (fun h => ?_) (fun h => ?_) | refine Im.sbind ?_)
    | ((conv => arg 3; whnf); first
      | ((with_reducible refine Im.fin ?_); exact zr)
      | ((with_reducible refine Im.anyo ?_ ?_); (next => kernel_rfl))
      | ((with_reducible refine Im.bite_t ?_ ?_); (next => exact zd))
      | ((with_reducible refine Im.must ?_ ?_); (next => exact zd))
      | ((with_reducible refine Im.bite_f ?_ ?_); (next => exact zd))
      | (with_reducible refine Im.byl ?_)
      | ((with_reducible refine Im.vget ByteArray.empty ?_ ?_ ?_); (next => exact zd); (next => exact zd))
      | ((with_reducible refine Im.vget z51 ?_ ?_ ?_); (next => exact zd); (next => exact zd))
      | ((with_reducible refine Im.vget z44 ?_ ?_ ?_); (next => exact zd); (next => exact zd))
      | ((with_reducible refine Im.vget z124 ?_ ?_ ?_); (next => exact zd); (next => exact zd))
      | ((with_reducible refine Im.vget z66 ?_ ?_ ?_); (next => exact zd); (next => exact zd))
      | ((with_reducible refine Im.vget z97 ?_ ?_ ?_); (next => exact zd); (next => exact zd))
      | ((with_reducible refine Im.vget (0 : Int) ?_ ?_ ?_); (next => exact zd); (next => exact zd))
      | ((with_reducible refine Im.vget false ?_ ?_ ?_); (next => exact zd); (next => exact zd))
      | ((with_reducible refine Im.call (spec_l01In.vi ?_ _ _ _) ?_ (fun r hr => ?_)); (next => omega); (next => exact zr))
      | exact zm | exact zx | fail)
  all_goals skip
theorem spec_l01Letter.vi {m : Nat} (hm : 2 ≤ m) (a0 : Int) : Im (fun r => (.bool r, [])) (spec_l01Letter.f a0) (cv m 74 [.byte a0]) := by
  obtain ⟨m, rfl⟩ : ∃ m', m = m' + 1 := ⟨m - 1, by omega⟩
  rw [show cv (m + 1) 74 _ = _ from callv_enter rfl Tryz.func74 (by kernel_rfl) rfl rfl]
  unfold spec_l01Letter.f
  repeat' first
    | (with_reducible first | exact Im.none | refine Im.ite (fun h => ?_) (fun h => ?_) | refine Im.sbind ?_)
    | ((conv => arg 3; whnf); first
      | ((with_reducible refine Im.fin ?_); exact zr)
      | ((with_reducible refine Im.anyo ?_ ?_); (next => kernel_rfl))
      | ((with_reducible refine Im.bite_t ?_ ?_); (next => exact zd))
      | ((with_reducible refine Im.must ?_ ?_); (next => exact zd))
      | ((with_reducible refine Im.bite_f ?_ ?_); (next => exact zd))
      | (with_reducible refine Im.byl ?_)
      | ((with_reducible refine Im.vget ByteArray.empty ?_ ?_ ?_); (next => exact zd); (next => exact zd))
      | ((with_reducible refine Im.vget z51 ?_ ?_ ?_); (next => exact zd); (next => exact zd))
      | ((with_reducible refine Im.vget z44 ?_ ?_ ?_); (next => exact zd); (next => exact zd))
      | ((with_reducible refine Im.vget z124 ?_ ?_ ?_); (next => exact zd); (next => exact zd))
      | ((with_reducible refine Im.vget z66 ?_ ?_ ?_); (next => exact zd); (next => exact zd))
      | ((with_reducible refine Im.vget z97 ?_ ?_ ?_); (next => exact zd); (next => exact zd))
      | ((with_reducible refine Im.vget (0 : Int) ?_ ?_ ?_); (next => exact zd); (next => exact zd))
      | ((with_reducible refine Im.vget false ?_ ?_ ?_); (next => exact zd); (next => exact zd))
      | ((with_reducible refine Im.call (spec_l01In.vi ?_ _ _ _) ?_ (fun r hr => ?_)); (next => omega); (next => exact zr))
      | exact zm | exact zx | fail)
  all_goals skip
theorem spec_l02Digits.vi {k m : Nat} (hm : k + 2 ≤ m) (a0 : ByteArray) : Im (fun r => (.bool r, [])) (spec_l02Digits.f k a0) (cv m 156 [.str a0]) := by
  obtain ⟨m, rfl⟩ : ∃ m', m = m' + 1 := ⟨m - 1, by omega⟩
  rw [show cv (m + 1) 156 _ = _ from callv_enter rfl Tryz.func156 (by kernel_rfl) rfl rfl]
  unfold spec_l02Digits.f
  repeat' first
    | (with_reducible first | exact Im.none | refine Im.ite (fun h => ?_) (fun h => ?_) | refine Im.sbind ?_)
    | ((conv => arg 3; whnf); first
      | ((with_reducible refine Im.fin ?_); exact zr)
      | ((with_reducible refine Im.anyo ?_ ?_); (next => kernel_rfl))
      | ((with_reducible refine Im.bite_t ?_ ?_); (next => exact zd))
      | ((with_reducible refine Im.must ?_ ?_); (next => exact zd))
      | ((with_reducible refine Im.bite_f ?_ ?_); (next => exact zd))
      | (with_reducible refine Im.byl ?_)
      | ((with_reducible refine Im.vget ByteArray.empty ?_ ?_ ?_); (next => exact zd); (next => exact zd))
      | ((with_reducible refine Im.vget z51 ?_ ?_ ?_); (next => exact zd); (next => exact zd))
      | ((with_reducible refine Im.vget z44 ?_ ?_ ?_); (next => exact zd); (next => exact zd))
      | ((with_reducible refine Im.vget z124 ?_ ?_ ?_); (next => exact zd); (next => exact zd))
      | ((with_reducible refine Im.vget z66 ?_ ?_ ?_); (next => exact zd); (next => exact zd))
      | ((with_reducible refine Im.vget z97 ?_ ?_ ?_); (next => exact zd); (next => exact zd))
      | ((with_reducible refine Im.vget (0 : Int) ?_ ?_ ?_); (next => exact zd); (next => exact zd))
      | ((with_reducible refine Im.vget false ?_ ?_ ?_); (next => exact zd); (next => exact zd))
      | ((with_reducible refine Im.call (spec_l01In.vi ?_ _ _ _) ?_ (fun r hr => ?_)); (next => omega); (next => exact zr))
      | ((with_reducible refine Im.loop (S := fun s : ByteArray × Int => [.str s.1, .un, .un, .int s.2, .un, .un, .un, .un, .un, .un, .un, .un, .un, .un, .un, .un, .un, .un]) (L := fun k s => spec_l02Digits.l0 k s.1 s.2) _ ?_ ?_ _ _ ⟨_, _⟩ _ (Nat.le_refl _) zo ?_)
         (next => intro s; rfl)
         (next =>
           intro k1 M1 ⟨x0, x3⟩ hk1 hM1 ih1
           conv => arg 2; simp only [spec_l02Digits.l0]
           repeat' first
             | (with_reducible first | exact Im.none | refine Im.ite (fun h => ?_) (fun h => ?_) | refine Im.sbind ?_)
             | ((conv => arg 3; whnf); first
               | ((with_reducible refine Im.fin ?_); exact zr)
               | ((with_reducible refine Im.anyo ?_ ?_); (next => kernel_rfl))
               | ((with_reducible refine Im.bite_t ?_ ?_); (next => exact zd))
               | ((with_reducible refine Im.must ?_ ?_); (next => exact zd))
               | ((with_reducible refine Im.bite_f ?_ ?_); (next => exact zd))
               | (with_reducible refine Im.byl ?_)
               | ((with_reducible refine Im.vget ByteArray.empty ?_ ?_ ?_); (next => exact zd); (next => exact zd))
               | ((with_reducible refine Im.vget z51 ?_ ?_ ?_); (next => exact zd); (next => exact zd))
               | ((with_reducible refine Im.vget z44 ?_ ?_ ?_); (next => exact zd); (next => exact zd))
               | ((with_reducible refine Im.vget z124 ?_ ?_ ?_); (next => exact zd); (next => exact zd))
               | ((with_reducible refine Im.vget z66 ?_ ?_ ?_); (next => exact zd); (next => exact zd))
               | ((with_reducible refine Im.vget z97 ?_ ?_ ?_); (next => exact zd); (next => exact zd))
               | ((with_reducible refine Im.vget (0 : Int) ?_ ?_ ?_); (next => exact zd); (next => exact zd))
               | ((with_reducible refine Im.vget false ?_ ?_ ?_); (next => exact zd); (next => exact zd))
               | ((with_reducible refine Im.call (spec_l01In.vi ?_ _ _ _) ?_ (fun r hr => ?_)); (next => omega); (next => exact zr))
               | ((with_reducible refine ih1 _ ⟨_, _⟩ _ ?_ ?_); (next => exact zo); exact zr)
               | exact zm | exact zx | fail)
           all_goals skip)
         exact zr)
      | exact zm | exact zx | fail)
  all_goals skip
theorem spec_l02Pre.vi {k m : Nat} (hm : k + 3 ≤ m) (a0 : ByteArray) : Im (fun r => (.bool r, [])) (spec_l02Pre.f k a0) (cv m 133 [.str a0]) := by
  obtain ⟨m, rfl⟩ : ∃ m', m = m' + 1 := ⟨m - 1, by omega⟩
  rw [show cv (m + 1) 133 _ = _ from callv_enter rfl Tryz.func133 (by kernel_rfl) rfl rfl]
  unfold spec_l02Pre.f
  repeat' first
    | (with_reducible first | exact Im.none | refine Im.ite (fun h => ?_) (fun h => ?_) | refine Im.sbind ?_)
    | ((conv => arg 3; whnf); first
      | ((with_reducible refine Im.fin ?_); exact zr)
      | ((with_reducible refine Im.anyo ?_ ?_); (next => kernel_rfl))
      | ((with_reducible refine Im.bite_t ?_ ?_); (next => exact zd))
      | ((with_reducible refine Im.must ?_ ?_); (next => exact zd))
      | ((with_reducible refine Im.bite_f ?_ ?_); (next => exact zd))
      | (with_reducible refine Im.byl ?_)
      | ((with_reducible refine Im.vget ByteArray.empty ?_ ?_ ?_); (next => exact zd); (next => exact zd))
      | ((with_reducible refine Im.vget z51 ?_ ?_ ?_); (next => exact zd); (next => exact zd))
      | ((with_reducible refine Im.vget z44 ?_ ?_ ?_); (next => exact zd); (next => exact zd))
      | ((with_reducible refine Im.vget z124 ?_ ?_ ?_); (next => exact zd); (next => exact zd))
      | ((with_reducible refine Im.vget z66 ?_ ?_ ?_); (next => exact zd); (next => exact zd))
      | ((with_reducible refine Im.vget z97 ?_ ?_ ?_); (next => exact zd); (next => exact zd))
      | ((with_reducible refine Im.vget (0 : Int) ?_ ?_ ?_); (next => exact zd); (next => exact zd))
      | ((with_reducible refine Im.vget false ?_ ?_ ?_); (next => exact zd); (next => exact zd))
      | ((with_reducible refine Im.call (spec_ReadDec.vi ?_ _) ?_ (fun r hr => ?_)); (next => omega); (next => exact zr))
      | ((with_reducible refine Im.call (spec_l01Great.vi ?_ _) ?_ (fun r hr => ?_)); (next => omega); (next => exact zr))
      | ((with_reducible refine Im.call (spec_l01In.vi ?_ _ _ _) ?_ (fun r hr => ?_)); (next => omega); (next => exact zr))
      | ((with_reducible refine Im.call (spec_l01Letter.vi ?_ _) ?_ (fun r hr => ?_)); (next => omega); (next => exact zr))
      | ((with_reducible refine Im.call (spec_l02Digits.vi ?_ _) ?_ (fun r hr => ?_)); (next => omega); (next => exact zr))
      | ((with_reducible refine Im.loop (S := fun s : ByteArray × Int => [.str s.1, .un, .un, .int s.2, .un, .un, .un, .un, .un, .un, .un, .un, .un, .un, .un, .un, .un, .un, .un, .un, .un, .un, .un, .un, .un, .un, .un, .un, .un, .un, .un, .un, .un, .un, .un, .un, .un, .un, .un, .un, .un]) (L := fun k s => spec_l02Pre.l0 k s.1 s.2) _ ?_ ?_ _ _ ⟨_, _⟩ _ (Nat.le_refl _) zo ?_)
         (next => intro s; rfl)
         (next =>
           intro k1 M1 ⟨x0, x3⟩ hk1 hM1 ih1
           conv => arg 2; simp only [spec_l02Pre.l0]
           repeat' first
             | (with_reducible first | exact Im.none | refine Im.ite (fun h => ?_) (fun h => ?_) | refine Im.sbind ?_)
             | ((conv => arg 3; whnf); first
               | ((with_reducible refine Im.fin ?_); exact zr)
               | ((with_reducible refine Im.anyo ?_ ?_); (next => kernel_rfl))
               | ((with_reducible refine Im.bite_t ?_ ?_); (next => exact zd))
               | ((with_reducible refine Im.must ?_ ?_); (next => exact zd))
               | ((with_reducible refine Im.bite_f ?_ ?_); (next => exact zd))
               | (with_reducible refine Im.byl ?_)
               | ((with_reducible refine Im.vget ByteArray.empty ?_ ?_ ?_); (next => exact zd); (next => exact zd))
               | ((with_reducible refine Im.vget z51 ?_ ?_ ?_); (next => exact zd); (next => exact zd))
               | ((with_reducible refine Im.vget z44 ?_ ?_ ?_); (next => exact zd); (next => exact zd))
               | ((with_reducible refine Im.vget z124 ?_ ?_ ?_); (next => exact zd); (next => exact zd))
               | ((with_reducible refine Im.vget z66 ?_ ?_ ?_); (next => exact zd); (next => exact zd))
               | ((with_reducible refine Im.vget z97 ?_ ?_ ?_); (next => exact zd); (next => exact zd))
               | ((with_reducible refine Im.vget (0 : Int) ?_ ?_ ?_); (next => exact zd); (next => exact zd))
               | ((with_reducible refine Im.vget false ?_ ?_ ?_); (next => exact zd); (next => exact zd))
               | ((with_reducible refine Im.call (spec_ReadDec.vi ?_ _) ?_ (fun r hr => ?_)); (next => omega); (next => exact zr))
               | ((with_reducible refine Im.call (spec_l01Great.vi ?_ _) ?_ (fun r hr => ?_)); (next => omega); (next => exact zr))
               | ((with_reducible refine Im.call (spec_l01In.vi ?_ _ _ _) ?_ (fun r hr => ?_)); (next => omega); (next => exact zr))
               | ((with_reducible refine Im.call (spec_l01Letter.vi ?_ _) ?_ (fun r hr => ?_)); (next => omega); (next => exact zr))
               | ((with_reducible refine Im.call (spec_l02Digits.vi ?_ _) ?_ (fun r hr => ?_)); (next => omega); (next => exact zr))
               | ((with_reducible refine ih1 _ ⟨_, _⟩ _ ?_ ?_); (next => exact zo); exact zr)
               | exact zm | exact zx | fail)
           all_goals skip)
         exact zr)
      | exact zm | exact zx | fail)
  all_goals skip
theorem spec_VersionOk.vi {k m : Nat} (hm : k + 4 ≤ m) (a0_0 : Int) (a0_1 : Int) (a0_2 : Int) (l0_3 : List ByteArray) : Im (fun r => (.bool r, [])) (spec_VersionOk.f k a0_0 a0_1 a0_2 l0_3) (cv m 99 [.ag [.int a0_0, .int a0_1, .int a0_2, .sl (l0_3.map VV.str)]]) := by
  obtain ⟨m, rfl⟩ : ∃ m', m = m' + 1 := ⟨m - 1, by omega⟩
  rw [show cv (m + 1) 99 _ = _ from callv_enter rfl Tryz.func99 (by kernel_rfl) rfl rfl]
  unfold spec_VersionOk.f
  repeat' first
    | (with_reducible first | exact Im.none | refine Im.ite (fun h => ?_) (fun h => ?_) | refine Im.sbind ?_)
    | ((conv => arg 3; whnf); first
      | ((with_reducible refine Im.fin ?_); exact zr)
      | ((with_reducible refine Im.anyo ?_ ?_); (next => kernel_rfl))
      | ((with_reducible refine Im.bite_t ?_ ?_); (next => exact zd))
      | ((with_reducible refine Im.must ?_ ?_); (next => exact zd))
      | ((with_reducible refine Im.bite_f ?_ ?_); (next => exact zd))
      | (with_reducible refine Im.byl ?_)
      | ((with_reducible refine Im.vget ByteArray.empty ?_ ?_ ?_); (next => exact zd); (next => exact zd))
      | ((with_reducible refine Im.vget z51 ?_ ?_ ?_); (next => exact zd); (next => exact zd))
      | ((with_reducible refine Im.vget z44 ?_ ?_ ?_); (next => exact zd); (next => exact zd))
      | ((with_reducible refine Im.vget z124 ?_ ?_ ?_); (next => exact zd); (next => exact zd))
      | ((with_reducible refine Im.vget z66 ?_ ?_ ?_); (next => exact zd); (next => exact zd))
      | ((with_reducible refine Im.vget z97 ?_ ?_ ?_); (next => exact zd); (next => exact zd))
      | ((with_reducible refine Im.vget (0 : Int) ?_ ?_ ?_); (next => exact zd); (next => exact zd))
      | ((with_reducible refine Im.vget false ?_ ?_ ?_); (next => exact zd); (next => exact zd))
      | ((with_reducible refine Im.call (spec_l01In.vi ?_ _ _ _) ?_ (fun r hr => ?_)); (next => omega); (next => exact zr))
      | ((with_reducible refine Im.call (spec_l02Pre.vi ?_ _) ?_ (fun r hr => ?_)); (next => omega); (next => exact zr))
      | ((with_reducible refine Im.loop (S := fun s : Int × Int × Int × Int × List ByteArray => [.un, .bx [.int s.2.1, .int s.2.2.1, .int s.2.2.2.1, .sl (s.2.2.2.2.map VV.str)], .un, .int s.1, .un, .un, .un, .un, .un, .un, .un, .un, .un, .un, .un, .un, .un, .un, .un, .un, .un, .un, .un, .un, .un, .un, .un, .un, .un, .un, .un, .un, .un, .un, .un, .un, .un]) (L := fun k s => spec_VersionOk.l0 k s.1 s.2.1 s.2.2.1 s.2.2.2.1 s.2.2.2.2) _ ?_ ?_ _ _ ⟨_, _, _, _, _⟩ _ (Nat.le_refl _) zo ?_)
         (next => intro s; rfl)
         (next =>
           intro k1 M1 ⟨x3, x139000, x139001, x139002, x139003⟩ hk1 hM1 ih1
           conv => arg 2; simp only [spec_VersionOk.l0]
           repeat' first
             | (with_reducible first | exact Im.none | refine Im.ite (fun h => ?_) (fun h => ?_) | refine Im.sbind ?_)
             | ((conv => arg 3; whnf); first
               | ((with_reducible refine Im.fin ?_); exact zr)
               | ((with_reducible refine Im.anyo ?_ ?_); (next => kernel_rfl))
               | ((with_reducible refine Im.bite_t ?_ ?_); (next => exact zd))
               | ((with_reducible refine Im.must ?_ ?_); (next => exact zd))
               | ((with_reducible refine Im.bite_f ?_ ?_); (next => exact zd))
               | (with_reducible refine Im.byl ?_)
               | ((with_reducible refine Im.vget ByteArray.empty ?_ ?_ ?_); (next => exact zd); (next => exact zd))
               | ((with_reducible refine Im.vget z51 ?_ ?_ ?_); (next => exact zd); (next => exact zd))
               | ((with_reducible refine Im.vget z44 ?_ ?_ ?_); (next => exact zd); (next => exact zd))
               | ((with_reducible refine Im.vget z124 ?_ ?_ ?_); (next => exact zd); (next => exact zd))
               | ((with_reducible refine Im.vget z66 ?_ ?_ ?_); (next => exact zd); (next => exact zd))
               | ((with_reducible refine Im.vget z97 ?_ ?_ ?_); (next => exact zd); (next => exact zd))
               | ((with_reducible refine Im.vget (0 : Int) ?_ ?_ ?_); (next => exact zd); (next => exact zd))
               | ((with_reducible refine Im.vget false ?_ ?_ ?_); (next => exact zd); (next => exact zd))
               | ((with_reducible refine Im.call (spec_l01In.vi ?_ _ _ _) ?_ (fun r hr => ?_)); (next => omega); (next => exact zr))
               | ((with_reducible refine Im.call (spec_l02Pre.vi ?_ _) ?_ (fun r hr => ?_)); (next => omega); (next => exact zr))
               | ((with_reducible refine ih1 _ ⟨_, _, _, _, _⟩ _ ?_ ?_); (next => exact zo); exact zr)
               | exact zm | exact zx | fail)
           all_goals skip)
         exact zr)
      | exact zm | exact zx | fail)
  all_goals skip
theorem spec_VersionText.vi {k m : Nat} (hm : k + 5 ≤ m) (a0_0 : Int) (a0_1 : Int) (a0_2 : Int) (l0_3 : List ByteArray) : Im (fun r => (.str r, [])) (spec_VersionText.f k a0_0 a0_1 a0_2 l0_3) (cv m 67 [.ag [.int a0_0, .int a0_1, .int a0_2, .sl (l0_3.map VV.str)]]) := by
  obtain ⟨m, rfl⟩ : ∃ m', m = m' + 1 := ⟨m - 1, by omega⟩
  rw [show cv (m + 1) 67 _ = _ from callv_enter rfl Tryz.func67 (by kernel_rfl) rfl rfl]
  unfold spec_VersionText.f
  repeat' first
    | (with_reducible first | exact Im.none | refine Im.ite (fun h => ?_) (fun h => ?_) | refine Im.sbind ?_)
    | ((conv => arg 3; whnf); first
      | ((with_reducible refine Im.fin ?_); exact zr)
      | ((with_reducible refine Im.anyo ?_ ?_); (next => kernel_rfl))
      | ((with_reducible refine Im.bite_t ?_ ?_); (next => exact zd))
      | ((with_reducible refine Im.must ?_ ?_); (next => exact zd))
      | ((with_reducible refine Im.bite_f ?_ ?_); (next => exact zd))
      | (with_reducible refine Im.byl ?_)
      | ((with_reducible refine Im.vget ByteArray.empty ?_ ?_ ?_); (next => exact zd); (next => exact zd))
      | ((with_reducible refine Im.vget z51 ?_ ?_ ?_); (next => exact zd); (next => exact zd))
      | ((with_reducible refine Im.vget z44 ?_ ?_ ?_); (next => exact zd); (next => exact zd))
      | ((with_reducible refine Im.vget z124 ?_ ?_ ?_); (next => exact zd); (next => exact zd))
      | ((with_reducible refine Im.vget z66 ?_ ?_ ?_); (next => exact zd); (next => exact zd))
      | ((with_reducible refine Im.vget z97 ?_ ?_ ?_); (next => exact zd); (next => exact zd))
      | ((with_reducible refine Im.vget (0 : Int) ?_ ?_ ?_); (next => exact zd); (next => exact zd))
      | ((with_reducible refine Im.vget false ?_ ?_ ?_); (next => exact zd); (next => exact zd))
      | ((with_reducible refine Im.call (spec_DecText.vi ?_ _) ?_ (fun r hr => ?_)); (next => omega); (next => exact zr))
      | ((with_reducible refine Im.call (spec_VersionOk.vi ?_ _ _ _ _) ?_ (fun r hr => ?_)); (next => omega); (next => exact zr))
      | ((with_reducible refine Im.loop (S := fun s : ByteArray × Int × Int × Int × Int × List ByteArray => [.un, .bx [.int s.2.2.1, .int s.2.2.2.1, .int s.2.2.2.2.1, .sl (s.2.2.2.2.2.map VV.str)], .un, .str s.1, .int s.2.1, .un, .un, .un, .un, .un, .un, .un, .un, .un, .un, .un, .un, .un, .un, .un, .un, .un, .un, .un, .un, .un, .un, .un, .un, .un, .un, .un, .un, .un, .un, .un, .un, .un, .un, .un, .un, .un, .un, .un, .un, .un, .un]) (L := fun k s => spec_VersionText.l0 k s.1 s.2.1 s.2.2.1 s.2.2.2.1 s.2.2.2.2.1 s.2.2.2.2.2) _ ?_ ?_ _ _ ⟨_, _, _, _, _, _⟩ _ (Nat.le_refl _) zo ?_)
         (next => intro s; rfl)
         (next =>
           intro k1 M1 ⟨x3, x4, x145000, x145001, x145002, x145003⟩ hk1 hM1 ih1
           conv => arg 2; simp only [spec_VersionText.l0]
           repeat' first
             | (with_reducible first | exact Im.none | refine Im.ite (fun h => ?_) (fun h => ?_) | refine Im.sbind ?_)
             | ((conv => arg 3; whnf); first
               | ((with_reducible refine Im.fin ?_); exact zr)
               | ((with_reducible refine Im.anyo ?_ ?_); (next => kernel_rfl))
               | ((with_reducible refine Im.bite_t ?_ ?_); (next => exact zd))
               | ((with_reducible refine Im.must ?_ ?_); (next => exact zd))
               | ((with_reducible refine Im.bite_f ?_ ?_); (next => exact zd))
               | (with_reducible refine Im.byl ?_)
               | ((with_reducible refine Im.vget ByteArray.empty ?_ ?_ ?_); (next => exact zd); (next => exact zd))
               | ((with_reducible refine Im.vget z51 ?_ ?_ ?_); (next => exact zd); (next => exact zd))
               | ((with_reducible refine Im.vget z44 ?_ ?_ ?_); (next => exact zd); (next => exact zd))
               | ((with_reducible refine Im.vget z124 ?_ ?_ ?_); (next => exact zd); (next => exact zd))
               | ((with_reducible refine Im.vget z66 ?_ ?_ ?_); (next => exact zd); (next => exact zd))
               | ((with_reducible refine Im.vget z97 ?_ ?_ ?_); (next => exact zd); (next => exact zd))
               | ((with_reducible refine Im.vget (0 : Int) ?_ ?_ ?_); (next => exact zd); (next => exact zd))
               | ((with_reducible refine Im.vget false ?_ ?_ ?_); (next => exact zd); (next => exact zd))
               | ((with_reducible refine Im.call (spec_DecText.vi ?_ _) ?_ (fun r hr => ?_)); (next => omega); (next => exact zr))
               | ((with_reducible refine Im.call (spec_VersionOk.vi ?_ _ _ _ _) ?_ (fun r hr => ?_)); (next => omega); (next => exact zr))
               | ((with_reducible refine ih1 _ ⟨_, _, _, _, _, _⟩ _ ?_ ?_); (next => exact zo); exact zr)
               | exact zm | exact zx | fail)
           all_goals skip)
         exact zr)
      | exact zm | exact zx | fail)
  all_goals skip
theorem spec_l01At.vi {k m : Nat} (hm : k + 1 ≤ m) (a0 : ByteArray) (a1 : Int) : Im (fun r => (.int r, [])) (spec_l01At.f k a0 a1) (cv m 35 [.str a0, .byte a1]) := by
  obtain ⟨m, rfl⟩ : ∃ m', m = m' + 1 := ⟨m - 1, by omega⟩
  rw [show cv (m + 1) 35 _ = _ from callv_enter rfl Tryz.func35 (by kernel_rfl) rfl rfl]
  unfold spec_l01At.f
  repeat' first
    | (with_reducible first | exact Im.none | refine Im.ite (fun h => ?_) (fun h => ?_) | refine Im.sbind ?_)
    | ((conv => arg 3; whnf); first
      | ((with_reducible refine Im.fin ?_); exact zr)
      | ((with_reducible refine Im.anyo ?_ ?_); (next => kernel_rfl))
      | ((with_reducible refine Im.bite_t ?_ ?_); (next => exact zd))
      | ((with_reducible refine Im.must ?_ ?_); (next => exact zd))
      | ((with_reducible refine Im.bite_f ?_ ?_); (next => exact zd))
      | (with_reducible refine Im.byl ?_)
      | ((with_reducible refine Im.vget ByteArray.empty ?_ ?_ ?_); (next => exact zd); (next => exact zd))
      | ((with_reducible refine Im.vget z51 ?_ ?_ ?_); (next => exact zd); (next => exact zd))
      | ((with_reducible refine Im.vget z44 ?_ ?_ ?_); (next => exact zd); (next => exact zd))
      | ((with_reducible refine Im.vget z124 ?_ ?_ ?_); (next => exact zd); (next => exact zd))
      | ((with_reducible refine Im.vget z66 ?_ ?_ ?_); (next => exact zd); (next => exact zd))
      | ((with_reducible refine Im.vget z97 ?_ ?_ ?_); (next => exact zd); (next => exact zd))
      | ((with_reducible refine Im.vget (0 : Int) ?_ ?_ ?_); (next => exact zd); (next => exact zd))
      | ((with_reducible refine Im.vget false ?_ ?_ ?_); (next => exact zd); (next => exact zd))
      | ((with_reducible refine Im.loop (S := fun s : ByteArray × Int × Int => [.str s.1, .byte s.2.1, .un, .un, .un, .int s.2.2, .un, .un, .un, .un, .un, .un, .un, .un, .un, .un, .un, .un]) (L := fun k s => spec_l01At.l0 k s.1 s.2.1 s.2.2) _ ?_ ?_ _ _ ⟨_, _, _⟩ _ (Nat.le_refl _) zo ?_)
         (next => intro s; rfl)
         (next =>
           intro k1 M1 ⟨x0, x1, x5⟩ hk1 hM1 ih1
           conv => arg 2; simp only [spec_l01At.l0]
           repeat' first
             | (with_reducible first | exact Im.none | refine Im.ite (fun h => ?_) (fun h => ?_) | refine Im.sbind ?_)
             | ((conv => arg 3; whnf); first
               | ((with_reducible refine Im.fin ?_); exact zr)
               | ((with_reducible refine Im.anyo ?_ ?_); (next => kernel_rfl))
               | ((with_reducible refine Im.bite_t ?_ ?_); (next => exact zd))
               | ((with_reducible refine Im.must ?_ ?_); (next => exact zd))
               | ((with_reducible refine Im.bite_f ?_ ?_); (next => exact zd))
               | (with_reducible refine Im.byl ?_)
               | ((with_reducible refine Im.vget ByteArray.empty ?_ ?_ ?_); (next => exact zd); (next => exact zd))
               | ((with_reducible refine Im.vget z51 ?_ ?_ ?_); (next => exact zd); (next => exact zd))
               | ((with_reducible refine Im.vget z44 ?_ ?_ ?_); (next => exact zd); (next => exact zd))
               | ((with_reducible refine Im.vget z124 ?_ ?_ ?_); (next => exact zd); (next => exact zd))
               | ((with_reducible refine Im.vget z66 ?_ ?_ ?_); (next => exact zd); (next => exact zd))
               | ((with_reducible refine Im.vget z97 ?_ ?_ ?_); (next => exact zd); (next => exact zd))
               | ((with_reducible refine Im.vget (0 : Int) ?_ ?_ ?_); (next => exact zd); (next => exact zd))
               | ((with_reducible refine Im.vget false ?_ ?_ ?_); (next => exact zd); (next => exact zd))
               | ((with_reducible refine ih1 _ ⟨_, _, _⟩ _ ?_ ?_); (next => exact zo); exact zr)
               | exact zm | exact zx | fail)
           all_goals skip)
         exact zr)
      | exact zm | exact zx | fail)
  all_goals skip
theorem spec_l01Cut.vi {k m : Nat} (hm : k + 1 ≤ m) (a0 : ByteArray) (a1 : Int) : Im (fun r => (.ow 9 1 (r.map VV.str), [])) (spec_l01Cut.f k a0 a1) (cv m 65 [.str a0, .byte a1]) := by
  obtain ⟨m, rfl⟩ : ∃ m', m = m' + 1 := ⟨m - 1, by omega⟩
  rw [show cv (m + 1) 65 _ = _ from callv_enter rfl Tryz.func65 (by kernel_rfl) rfl rfl]
  unfold spec_l01Cut.f
  repeat' first
    | (with_reducible first | exact Im.none | refine Im.ite (fun h => ?_) (fun h => ?_) | refine Im.sbind ?_)
    | ((conv => arg 3; whnf); first
      | ((with_reducible refine Im.fin ?_); exact zr)
      | ((with_reducible refine Im.anyo ?_ ?_); (next => kernel_rfl))
      | ((with_reducible refine Im.bite_t ?_ ?_); (next => exact zd))
      | ((with_reducible refine Im.must ?_ ?_); (next => exact zd))
      | ((with_reducible refine Im.bite_f ?_ ?_); (next => exact zd))
      | (with_reducible refine Im.byl ?_)
      | ((with_reducible refine Im.vget ByteArray.empty ?_ ?_ ?_); (next => exact zd); (next => exact zd))
      | ((with_reducible refine Im.vget z51 ?_ ?_ ?_); (next => exact zd); (next => exact zd))
      | ((with_reducible refine Im.vget z44 ?_ ?_ ?_); (next => exact zd); (next => exact zd))
      | ((with_reducible refine Im.vget z124 ?_ ?_ ?_); (next => exact zd); (next => exact zd))
      | ((with_reducible refine Im.vget z66 ?_ ?_ ?_); (next => exact zd); (next => exact zd))
      | ((with_reducible refine Im.vget z97 ?_ ?_ ?_); (next => exact zd); (next => exact zd))
      | ((with_reducible refine Im.vget (0 : Int) ?_ ?_ ?_); (next => exact zd); (next => exact zd))
      | ((with_reducible refine Im.vget false ?_ ?_ ?_); (next => exact zd); (next => exact zd))
      | ((with_reducible refine Im.loop (S := fun s : ByteArray × Int × List ByteArray × Int × Int => [.str s.1, .byte s.2.1, .un, .un, .un, .ow 9 1 (s.2.2.1.map VV.str), .int s.2.2.2.1, .int s.2.2.2.2, .un, .un, .un, .un, .un, .un, .un, .un, .un, .un, .un, .un, .un, .un, .un, .un, .un, .un, .un, .un, .un, .un, .un, .un, .un, .un, .un]) (L := fun k s => spec_l01Cut.l0 k s.1 s.2.1 s.2.2.1 s.2.2.2.1 s.2.2.2.2) _ ?_ ?_ _ _ ⟨_, _, _, _, _⟩ _ (Nat.le_refl _) zo ?_)
         (next => intro s; rfl)
         (next =>
           intro k1 M1 ⟨x0, x1, x5, x6, x7⟩ hk1 hM1 ih1
           conv => arg 2; simp only [spec_l01Cut.l0]
           repeat' first
             | (with_reducible first | exact Im.none | refine Im.ite (fun h => ?_) (fun h => ?_) | refine Im.sbind ?_)
             | ((conv => arg 3; whnf); first
               | ((with_reducible refine Im.fin ?_); exact zr)
               | ((with_reducible refine Im.anyo ?_ ?_); (next => kernel_rfl))
               | ((with_reducible refine Im.bite_t ?_ ?_); (next => exact zd))
               | ((with_reducible refine Im.must ?_ ?_); (next => exact zd))
               | ((with_reducible refine Im.bite_f ?_ ?_); (next => exact zd))
               | (with_reducible refine Im.byl ?_)
               | ((with_reducible refine Im.vget ByteArray.empty ?_ ?_ ?_); (next => exact zd); (next => exact zd))
               | ((with_reducible refine Im.vget z51 ?_ ?_ ?_); (next => exact zd); (next => exact zd))
               | ((with_reducible refine Im.vget z44 ?_ ?_ ?_); (next => exact zd); (next => exact zd))
               | ((with_reducible refine Im.vget z124 ?_ ?_ ?_); (next => exact zd); (next => exact zd))
               | ((with_reducible refine Im.vget z66 ?_ ?_ ?_); (next => exact zd); (next => exact zd))
               | ((with_reducible refine Im.vget z97 ?_ ?_ ?_); (next => exact zd); (next => exact zd))
               | ((with_reducible refine Im.vget (0 : Int) ?_ ?_ ?_); (next => exact zd); (next => exact zd))
               | ((with_reducible refine Im.vget false ?_ ?_ ?_); (next => exact zd); (next => exact zd))
               | ((with_reducible refine ih1 _ ⟨_, _, _, _, _⟩ _ ?_ ?_); (next => exact zo); exact zr)
               | exact zm | exact zx | fail)
           all_goals skip)
         exact zr)
      | exact zm | exact zx | fail)
  all_goals skip
theorem spec_ReadVersion.vi {k m : Nat} (hm : k + 6 ≤ m) (a0 : ByteArray) : Im (fun r => (.tu [.ag [.int r.1, .int r.2.1, .int r.2.2.1, .sl (r.2.2.2.1.map VV.str)], .bool r.2.2.2.2], [])) (spec_ReadVersion.f k a0) (cv m 37 [.str a0]) := by
  obtain ⟨m, rfl⟩ : ∃ m', m = m' + 1 := ⟨m - 1, by omega⟩
  rw [show cv (m + 1) 37 _ = _ from callv_enter rfl Tryz.func37 (by kernel_rfl) rfl rfl]
  unfold spec_ReadVersion.f
  repeat' first
    | ((with_reducible refine Im.nat (fun k => spec_ReadVersion.j0 k _ _ _ _ _ _) _ ?_ (fun kj hkj => ?_)); (next => rfl); (conv => arg 2; simp only [spec_ReadVersion.j0, Bool.false_eq_true, reduceIte]))
    | (with_reducible first | exact Im.none | refine Im.ite (fun h => ?_) (fun h => ?_) | refine Im.sbind ?_)
    | ((conv => arg 3; whnf); first
      | ((with_reducible refine Im.fin ?_); exact zr)
      | ((with_reducible refine Im.anyo ?_ ?_); (next => kernel_rfl))
      | ((with_reducible refine Im.bite_t ?_ ?_); (next => exact zd))
      | ((with_reducible refine Im.must ?_ ?_); (next => exact zd))
      | ((with_reducible refine Im.bite_f ?_ ?_); (next => exact zd))
      | (with_reducible refine Im.byl ?_)
      | ((with_reducible refine Im.vget ByteArray.empty ?_ ?_ ?_); (next => exact zd); (next => exact zd))
      | ((with_reducible refine Im.vget z51 ?_ ?_ ?_); (next => exact zd); (next => exact zd))
      | ((with_reducible refine Im.vget z44 ?_ ?_ ?_); (next => exact zd); (next => exact zd))
      | ((with_reducible refine Im.vget z124 ?_ ?_ ?_); (next => exact zd); (next => exact zd))
      | ((with_reducible refine Im.vget z66 ?_ ?_ ?_); (next => exact zd); (next => exact zd))
      | ((with_reducible refine Im.vget z97 ?_ ?_ ?_); (next => exact zd); (next => exact zd))
      | ((with_reducible refine Im.vget (0 : Int) ?_ ?_ ?_); (next => exact zd); (next => exact zd))
      | ((with_reducible refine Im.vget false ?_ ?_ ?_); (next => exact zd); (next => exact zd))
      | ((with_reducible refine Im.call (spec_ReadDec.vi ?_ _) ?_ (fun r hr => ?_)); (next => omega); (next => exact zr))
      | ((with_reducible refine Im.call (spec_VersionText.vi ?_ _ _ _ _) ?_ (fun r hr => ?_)); (next => omega); (next => exact zr))
      | ((with_reducible refine Im.call (spec_l01At.vi ?_ _ _) ?_ (fun r hr => ?_)); (next => omega); (next => exact zr))
      | ((with_reducible refine Im.call (spec_l01Cut.vi ?_ _ _) ?_ (fun r hr => ?_)); (next => omega); (next => exact zr))
      | exact zm | exact zx | fail)
  all_goals skip
theorem spec_l02Less.vi {m : Nat} (hm : 1 ≤ m) (a0 : Int) (a1 : Int) : Im (fun r => (.int r, [])) (spec_l02Less.f a0 a1) (cv m 68 [.int a0, .int a1]) := by
  obtain ⟨m, rfl⟩ : ∃ m', m = m' + 1 := ⟨m - 1, by omega⟩
  rw [show cv (m + 1) 68 _ = _ from callv_enter rfl Tryz.func68 (by kernel_rfl) rfl rfl]
  unfold spec_l02Less.f
  repeat' first
    | (with_reducible first | exact Im.none | refine Im.ite (fun h => ?_) (fun h => ?_) | refine Im.sbind ?_)
    | ((conv => arg 3; whnf); first
      | ((with_reducible refine Im.fin ?_); exact zr)
      | ((with_reducible refine Im.anyo ?_ ?_); (next => kernel_rfl))
      | ((with_reducible refine Im.bite_t ?_ ?_); (next => exact zd))
      | ((with_reducible refine Im.must ?_ ?_); (next => exact zd))
      | ((with_reducible refine Im.bite_f ?_ ?_); (next => exact zd))
      | (with_reducible refine Im.byl ?_)
      | ((with_reducible refine Im.vget ByteArray.empty ?_ ?_ ?_); (next => exact zd); (next => exact zd))
      | ((with_reducible refine Im.vget z51 ?_ ?_ ?_); (next => exact zd); (next => exact zd))
      | ((with_reducible refine Im.vget z44 ?_ ?_ ?_); (next => exact zd); (next => exact zd))
      | ((with_reducible refine Im.vget z124 ?_ ?_ ?_); (next => exact zd); (next => exact zd))
      | ((with_reducible refine Im.vget z66 ?_ ?_ ?_); (next => exact zd); (next => exact zd))
      | ((with_reducible refine Im.vget z97 ?_ ?_ ?_); (next => exact zd); (next => exact zd))
      | ((with_reducible refine Im.vget (0 : Int) ?_ ?_ ?_); (next => exact zd); (next => exact zd))
      | ((with_reducible refine Im.vget false ?_ ?_ ?_); (next => exact zd); (next => exact zd))
      | exact zm | exact zx | fail)
  all_goals skip
theorem spec_l02Texts.vi {m : Nat} (hm : 1 ≤ m) (a0 : ByteArray) (a1 : ByteArray) : Im (fun r => (.int r, [])) (spec_l02Texts.f a0 a1) (cv m 100 [.str a0, .str a1]) := by
  obtain ⟨m, rfl⟩ : ∃ m', m = m' + 1 := ⟨m - 1, by omega⟩
  rw [show cv (m + 1) 100 _ = _ from callv_enter rfl Tryz.func100 (by kernel_rfl) rfl rfl]
  unfold spec_l02Texts.f
  repeat' first
    | (with_reducible first | exact Im.none | refine Im.ite (fun h => ?_) (fun h => ?_) | refine Im.sbind ?_)
    | ((conv => arg 3; whnf); first
      | ((with_reducible refine Im.fin ?_); exact zr)
      | ((with_reducible refine Im.anyo ?_ ?_); (next => kernel_rfl))
      | ((with_reducible refine Im.bite_t ?_ ?_); (next => exact zd))
      | ((with_reducible refine Im.must ?_ ?_); (next => exact zd))
      | ((with_reducible refine Im.bite_f ?_ ?_); (next => exact zd))
      | (with_reducible refine Im.byl ?_)
      | ((with_reducible refine Im.vget ByteArray.empty ?_ ?_ ?_); (next => exact zd); (next => exact zd))
      | ((with_reducible refine Im.vget z51 ?_ ?_ ?_); (next => exact zd); (next => exact zd))
      | ((with_reducible refine Im.vget z44 ?_ ?_ ?_); (next => exact zd); (next => exact zd))
      | ((with_reducible refine Im.vget z124 ?_ ?_ ?_); (next => exact zd); (next => exact zd))
      | ((with_reducible refine Im.vget z66 ?_ ?_ ?_); (next => exact zd); (next => exact zd))
      | ((with_reducible refine Im.vget z97 ?_ ?_ ?_); (next => exact zd); (next => exact zd))
      | ((with_reducible refine Im.vget (0 : Int) ?_ ?_ ?_); (next => exact zd); (next => exact zd))
      | ((with_reducible refine Im.vget false ?_ ?_ ?_); (next => exact zd); (next => exact zd))
      | exact zm | exact zx | fail)
  all_goals skip
theorem spec_l02Part.vi {k m : Nat} (hm : k + 3 ≤ m) (a0 : ByteArray) (a1 : ByteArray) : Im (fun r => (.int r, [])) (spec_l02Part.f k a0 a1) (cv m 69 [.str a0, .str a1]) := by
  obtain ⟨m, rfl⟩ : ∃ m', m = m' + 1 := ⟨m - 1, by omega⟩
  rw [show cv (m + 1) 69 _ = _ from callv_enter rfl Tryz.func69 (by kernel_rfl) rfl rfl]
  unfold spec_l02Part.f
  repeat' first
    | ((with_reducible refine Im.nat (fun k => spec_l02Part.j0 k _ _ _ _ _) _ ?_ (fun kj hkj => ?_)); (next => rfl); (conv => arg 2; simp only [spec_l02Part.j0, Bool.false_eq_true, reduceIte]))
    | (with_reducible first | exact Im.none | refine Im.ite (fun h => ?_) (fun h => ?_) | refine Im.sbind ?_)
    | ((conv => arg 3; whnf); first
      | ((with_reducible refine Im.fin ?_); exact zr)
      | ((with_reducible refine Im.anyo ?_ ?_); (next => kernel_rfl))
      | ((with_reducible refine Im.bite_t ?_ ?_); (next => exact zd))
      | ((with_reducible refine Im.must ?_ ?_); (next => exact zd))
      | ((with_reducible refine Im.bite_f ?_ ?_); (next => exact zd))
      | (with_reducible refine Im.byl ?_)
      | ((with_reducible refine Im.vget ByteArray.empty ?_ ?_ ?_); (next => exact zd); (next => exact zd))
      | ((with_reducible refine Im.vget z51 ?_ ?_ ?_); (next => exact zd); (next => exact zd))
      | ((with_reducible refine Im.vget z44 ?_ ?_ ?_); (next => exact zd); (next => exact zd))
      | ((with_reducible refine Im.vget z124 ?_ ?_ ?_); (next => exact zd); (next => exact zd))
      | ((with_reducible refine Im.vget z66 ?_ ?_ ?_); (next => exact zd); (next => exact zd))
      | ((with_reducible refine Im.vget z97 ?_ ?_ ?_); (next => exact zd); (next => exact zd))
      | ((with_reducible refine Im.vget (0 : Int) ?_ ?_ ?_); (next => exact zd); (next => exact zd))
      | ((with_reducible refine Im.vget false ?_ ?_ ?_); (next => exact zd); (next => exact zd))
      | ((with_reducible refine Im.call (spec_ReadDec.vi ?_ _) ?_ (fun r hr => ?_)); (next => omega); (next => exact zr))
      | ((with_reducible refine Im.call (spec_l02Less.vi ?_ _ _) ?_ (fun r hr => ?_)); (next => omega); (next => exact zr))
      | ((with_reducible refine Im.call (spec_l02Texts.vi ?_ _ _) ?_ (fun r hr => ?_)); (next => omega); (next => exact zr))
      | exact zm | exact zx | fail)
  all_goals skip
theorem spec_CompareVersion.vi {k m : Nat} (hm : k + 4 ≤ m) (a0_0 : Int) (a0_1 : Int) (a0_2 : Int) (l0_3 : List ByteArray) (a1_0 : Int) (a1_1 : Int) (a1_2 : Int) (l1_3 : List ByteArray) : Im (fun r => (.int r, [])) (spec_CompareVersion.f k a0_0 a0_1 a0_2 l0_3 a1_0 a1_1 a1_2 l1_3) (cv m 38 [.ag [.int a0_0, .int a0_1, .int a0_2, .sl (l0_3.map VV.str)], .ag [.int a1_0, .int a1_1, .int a1_2, .sl (l1_3.map VV.str)]]) := by
  obtain ⟨m, rfl⟩ : ∃ m', m = m' + 1 := ⟨m - 1, by omega⟩
  rw [show cv (m + 1) 38 _ = _ from callv_enter rfl Tryz.func38 (by kernel_rfl) rfl rfl]
  unfold spec_CompareVersion.f
  repeat' first
    | (with_reducible first | exact Im.none | refine Im.ite (fun h => ?_) (fun h => ?_) | refine Im.sbind ?_)
    | ((conv => arg 3; whnf); first
      | ((with_reducible refine Im.fin ?_); exact zr)
      | ((with_reducible refine Im.anyo ?_ ?_); (next => kernel_rfl))
      | ((with_reducible refine Im.bite_t ?_ ?_); (next => exact zd))
      | ((with_reducible refine Im.must ?_ ?_); (next => exact zd))
      | ((with_reducible refine Im.bite_f ?_ ?_); (next => exact zd))
      | (with_reducible refine Im.byl ?_)
      | ((with_reducible refine Im.vget ByteArray.empty ?_ ?_ ?_); (next => exact zd); (next => exact zd))
      | ((with_reducible refine Im.vget z51 ?_ ?_ ?_); (next => exact zd); (next => exact zd))
      | ((with_reducible refine Im.vget z44 ?_ ?_ ?_); (next => exact zd); (next => exact zd))
      | ((with_reducible refine Im.vget z124 ?_ ?_ ?_); (next => exact zd); (next => exact zd))
      | ((with_reducible refine Im.vget z66 ?_ ?_ ?_); (next => exact zd); (next => exact zd))
      | ((with_reducible refine Im.vget z97 ?_ ?_ ?_); (next => exact zd); (next => exact zd))
      | ((with_reducible refine Im.vget (0 : Int) ?_ ?_ ?_); (next => exact zd); (next => exact zd))
      | ((with_reducible refine Im.vget false ?_ ?_ ?_); (next => exact zd); (next => exact zd))
      | ((with_reducible refine Im.call (spec_l02Less.vi ?_ _ _) ?_ (fun r hr => ?_)); (next => omega); (next => exact zr))
      | ((with_reducible refine Im.call (spec_l02Part.vi ?_ _ _) ?_ (fun r hr => ?_)); (next => omega); (next => exact zr))
      | ((with_reducible refine Im.loop (S := fun s : List Int × Int × Int × Int × Int × List ByteArray × Int × Int × Int × List ByteArray => [.un, .un, .bx [.int s.2.2.1, .int s.2.2.2.1, .int s.2.2.2.2.1, .sl (s.2.2.2.2.2.1.map VV.str)], .bx [.int s.2.2.2.2.2.2.1, .int s.2.2.2.2.2.2.2.1, .int s.2.2.2.2.2.2.2.2.1, .sl (s.2.2.2.2.2.2.2.2.2.map VV.str)], .un, .ow 3 1 (s.1.map VV.int), .int s.2.1, .un, .un, .un, .un, .un, .un, .un, .un, .un, .un, .un, .un, .un, .un, .un, .un, .un, .un, .un, .un, .un, .un, .un, .un, .un, .un, .un, .un, .un, .un, .un, .un, .un, .un, .un, .un, .un, .un, .un, .un, .un, .un, .un, .un, .un, .un, .un, .un, .un, .un, .un, .un, .un, .un, .un, .un, .un, .un, .un, .un, .un, .un, .un, .un, .un, .un, .un, .un, .un, .un, .un, .un, .un, .un, .un, .un, .un, .un, .un, .un, .un, .un, .un]) (L := fun k s => spec_CompareVersion.l0 k s.1 s.2.1 s.2.2.1 s.2.2.2.1 s.2.2.2.2.1 s.2.2.2.2.2.1 s.2.2.2.2.2.2.1 s.2.2.2.2.2.2.2.1 s.2.2.2.2.2.2.2.2.1 s.2.2.2.2.2.2.2.2.2) _ ?_ ?_ _ _ ⟨_, _, _, _, _, _, _, _, _, _⟩ _ (Nat.le_refl _) zo ?_)
         (next => intro s; rfl)
         (next =>
           intro k1 M1 ⟨x5, x6, x172000, x172001, x172002, x172003, x173000, x173001, x173002, x173003⟩ hk1 hM1 ih1
           conv => arg 2; simp only [spec_CompareVersion.l0]
           repeat' first
             | ((with_reducible refine Im.nat (fun k => spec_CompareVersion.j1 k _ _ _ _ _ _ _ _ _) _ ?_ (fun kj hkj => ?_)); (next => rfl); (conv => arg 2; simp only [spec_CompareVersion.j1, Bool.false_eq_true, reduceIte]))
             | (with_reducible first | exact Im.none | refine Im.ite (fun h => ?_) (fun h => ?_) | refine Im.sbind ?_)
             | ((conv => arg 3; whnf); first
               | ((with_reducible refine Im.fin ?_); exact zr)
               | ((with_reducible refine Im.anyo ?_ ?_); (next => kernel_rfl))
               | ((with_reducible refine Im.bite_t ?_ ?_); (next => exact zd))
               | ((with_reducible refine Im.must ?_ ?_); (next => exact zd))
               | ((with_reducible refine Im.bite_f ?_ ?_); (next => exact zd))
               | (with_reducible refine Im.byl ?_)
               | ((with_reducible refine Im.vget ByteArray.empty ?_ ?_ ?_); (next => exact zd); (next => exact zd))
               | ((with_reducible refine Im.vget z51 ?_ ?_ ?_); (next => exact zd); (next => exact zd))
               | ((with_reducible refine Im.vget z44 ?_ ?_ ?_); (next => exact zd); (next => exact zd))
               | ((with_reducible refine Im.vget z124 ?_ ?_ ?_); (next => exact zd); (next => exact zd))
               | ((with_reducible refine Im.vget z66 ?_ ?_ ?_); (next => exact zd); (next => exact zd))
               | ((with_reducible refine Im.vget z97 ?_ ?_ ?_); (next => exact zd); (next => exact zd))
               | ((with_reducible refine Im.vget (0 : Int) ?_ ?_ ?_); (next => exact zd); (next => exact zd))
               | ((with_reducible refine Im.vget false ?_ ?_ ?_); (next => exact zd); (next => exact zd))
               | ((with_reducible refine Im.call (spec_l02Less.vi ?_ _ _) ?_ (fun r hr => ?_)); (next => omega); (next => exact zr))
               | ((with_reducible refine Im.call (spec_l02Part.vi ?_ _ _) ?_ (fun r hr => ?_)); (next => omega); (next => exact zr))
               | ((with_reducible refine ih1 _ ⟨_, _, _, _, _, _, _, _, _, _⟩ _ ?_ ?_); (next => exact zo); exact zr)
               | ((with_reducible refine Im.loop (S := fun s : Int × Int × Int × Int × List ByteArray × Int × Int × Int × List ByteArray => [.un, .un, .bx [.int s.2.1, .int s.2.2.1, .int s.2.2.2.1, .sl (s.2.2.2.2.1.map VV.str)], .bx [.int s.2.2.2.2.2.1, .int s.2.2.2.2.2.2.1, .int s.2.2.2.2.2.2.2.1, .sl (s.2.2.2.2.2.2.2.2.map VV.str)], .un, .un, .un, .int s.1, .un, .un, .un, .un, .un, .un, .un, .un, .un, .un, .un, .un, .un, .un, .un, .un, .un, .un, .un, .un, .un, .un, .un, .un, .un, .un, .un, .un, .un, .un, .un, .un, .un, .un, .un, .un, .un, .un, .un, .un, .un, .un, .un, .un, .un, .un, .un, .un, .un, .un, .un, .un, .un, .un, .un, .un, .un, .un, .un, .un, .un, .un, .un, .un, .un, .un, .un, .un, .un, .un, .un, .un, .un, .un, .un, .un, .un, .un, .un, .un, .un, .un]) (L := fun k s => spec_CompareVersion.l1 k s.1 s.2.1 s.2.2.1 s.2.2.2.1 s.2.2.2.2.1 s.2.2.2.2.2.1 s.2.2.2.2.2.2.1 s.2.2.2.2.2.2.2.1 s.2.2.2.2.2.2.2.2) _ ?_ ?_ _ _ ⟨_, _, _, _, _, _, _, _, _⟩ _ (Nat.le_refl _) zo ?_)
                  (next => intro s; rfl)
                  (next =>
                    intro k2 M2 ⟨x7, x172000, x172001, x172002, x172003, x173000, x173001, x173002, x173003⟩ hk2 hM2 ih2
                    conv => arg 2; simp only [spec_CompareVersion.l1]
                    repeat' first
                      | ((with_reducible refine Im.nat (fun k => spec_CompareVersion.j3 k _ _ _ _ _ _ _ _ _ _) _ ?_ (fun kj hkj => ?_)); (next => rfl); (conv => arg 2; simp only [spec_CompareVersion.j3, Bool.false_eq_true, reduceIte]))
                      | (with_reducible first | exact Im.none | refine Im.ite (fun h => ?_) (fun h => ?_) | refine Im.sbind ?_)
                      | ((conv => arg 3; whnf); first
                        | ((with_reducible refine Im.fin ?_); exact zr)
                        | ((with_reducible refine Im.anyo ?_ ?_); (next => kernel_rfl))
                        | ((with_reducible refine Im.bite_t ?_ ?_); (next => exact zd))
                        | ((with_reducible refine Im.must ?_ ?_); (next => exact zd))
                        | ((with_reducible refine Im.bite_f ?_ ?_); (next => exact zd))
                        | (with_reducible refine Im.byl ?_)
                        | ((with_reducible refine Im.vget ByteArray.empty ?_ ?_ ?_); (next => exact zd); (next => exact zd))
                        | ((with_reducible refine Im.vget z51 ?_ ?_ ?_); (next => exact zd); (next => exact zd))
                        | ((with_reducible refine Im.vget z44 ?_ ?_ ?_); (next => exact zd); (next => exact zd))
                        | ((with_reducible refine Im.vget z124 ?_ ?_ ?_); (next => exact zd); (next => exact zd))
                        | ((with_reducible refine Im.vget z66 ?_ ?_ ?_); (next => exact zd); (next => exact zd))
                        | ((with_reducible refine Im.vget z97 ?_ ?_ ?_); (next => exact zd); (next => exact zd))
                        | ((with_reducible refine Im.vget (0 : Int) ?_ ?_ ?_); (next => exact zd); (next => exact zd))
                        | ((with_reducible refine Im.vget false ?_ ?_ ?_); (next => exact zd); (next => exact zd))
                        | ((with_reducible refine Im.call (spec_l02Less.vi ?_ _ _) ?_ (fun r hr => ?_)); (next => omega); (next => exact zr))
                        | ((with_reducible refine Im.call (spec_l02Part.vi ?_ _ _) ?_ (fun r hr => ?_)); (next => omega); (next => exact zr))
                        | ((with_reducible refine ih2 _ ⟨_, _, _, _, _, _, _, _, _⟩ _ ?_ ?_); (next => exact zo); exact zr)
                        | exact zm | exact zx | fail)
                    all_goals skip)
                  exact zr)
               | exact zm | exact zx | fail)
           all_goals skip)
         exact zr)
      | exact zm | exact zx | fail)
  all_goals skip
theorem spec_Next.vi {k m : Nat} (hm : k + 5 ≤ m) (a0_0 : Int) (a0_1 : Int) (a0_2 : Int) (l0_3 : List ByteArray) (a1 : Int) : Im (fun r => (.ag [.int r.1, .int r.2.1, .int r.2.2.1, .sl (r.2.2.2.map VV.str)], [])) (spec_Next.f k a0_0 a0_1 a0_2 l0_3 a1) (cv m 141 [.ag [.int a0_0, .int a0_1, .int a0_2, .sl (l0_3.map VV.str)], .int a1]) := by
  obtain ⟨m, rfl⟩ : ∃ m', m = m' + 1 := ⟨m - 1, by omega⟩
  rw [show cv (m + 1) 141 _ = _ from callv_enter rfl Tryz.func141 (by kernel_rfl) rfl rfl]
  unfold spec_Next.f
  repeat' first
    | ((with_reducible refine Im.nat (fun k => spec_Next.j0 k _ _ _ _ _ _ _ _ _ _ _ _ _) _ ?_ (fun kj hkj => ?_)); (next => rfl); (conv => arg 2; simp only [spec_Next.j0, Bool.false_eq_true, reduceIte]))
    | (with_reducible first | exact Im.none | refine Im.ite (fun h => ?_) (fun h => ?_) | refine Im.sbind ?_)
    | ((conv => arg 3; whnf); first
      | ((with_reducible refine Im.fin ?_); exact zr)
      | ((with_reducible refine Im.anyo ?_ ?_); (next => kernel_rfl))
      | ((with_reducible refine Im.bite_t ?_ ?_); (next => exact zd))
      | ((with_reducible refine Im.must ?_ ?_); (next => exact zd))
      | ((with_reducible refine Im.bite_f ?_ ?_); (next => exact zd))
      | (with_reducible refine Im.byl ?_)
      | ((with_reducible refine Im.vget ByteArray.empty ?_ ?_ ?_); (next => exact zd); (next => exact zd))
      | ((with_reducible refine Im.vget z51 ?_ ?_ ?_); (next => exact zd); (next => exact zd))
      | ((with_reducible refine Im.vget z44 ?_ ?_ ?_); (next => exact zd); (next => exact zd))
      | ((with_reducible refine Im.vget z124 ?_ ?_ ?_); (next => exact zd); (next => exact zd))
      | ((with_reducible refine Im.vget z66 ?_ ?_ ?_); (next => exact zd); (next => exact zd))
      | ((with_reducible refine Im.vget z97 ?_ ?_ ?_); (next => exact zd); (next => exact zd))
      | ((with_reducible refine Im.vget (0 : Int) ?_ ?_ ?_); (next => exact zd); (next => exact zd))
      | ((with_reducible refine Im.vget false ?_ ?_ ?_); (next => exact zd); (next => exact zd))
      | ((with_reducible refine Im.call (spec_VersionOk.vi ?_ _ _ _ _) ?_ (fun r hr => ?_)); (next => omega); (next => exact zr))
      | ((with_reducible refine Im.call (spec_l01In.vi ?_ _ _ _) ?_ (fun r hr => ?_)); (next => omega); (next => exact zr))
      | exact zm | exact zx | fail)
  all_goals skip
end Go.Proofs.YteldcmniknocpaaGreatDoor.VI

end
