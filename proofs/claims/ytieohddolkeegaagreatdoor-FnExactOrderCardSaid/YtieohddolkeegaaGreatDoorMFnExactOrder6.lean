/- A part of the proof that the law FnExactOrder answers true at every input that its row speaks of. Conditions: the row's own. -/
import Derived.Test.YtieohddolkeegaaGreatDoorMFnExactOrder4
import Derived.Test.YtieohddolkeegaaGreatDoorKFnExactOrder0
import Derived.Test.YtieohddolkeegaaGreatDoorMFnExactOrder5
import Derived.Test.YtieohddolkeegaaGreatDoorGlob
import Derived.Test.YtieohddolkeegaaGreatDoorOpZ
import Derived.Test.YtieohddolkeegaaGreatDoorMFnExactOrder1
section
namespace Go.Proofs.YtieohddolkeegaaGreatDoor.VI
open Go Go.RowKit Go.Proofs.YtieohddolkeegaaGreatDoor.G Go.Proofs.YtieohddolkeegaaGreatDoorW.PrintWords
set_option maxRecDepth 100000
set_option maxHeartbeats 16000000
attribute [local irreducible] bite obind vget
attribute [local simp] rd_T130_eq rd_T47_eq rd_T39_eq rd_T67_eq rd_T185_eq rd_T139_eq
theorem spec_l04Long.vi {k m : Nat} {Gv : GvT} (hG : Base Gv) (hm : k + 1 ≤ m) (a0 : ByteArray) : Im (fun r => (.int r, [])) (spec_l04Long.f k a0) (callv Tryz.prog ti keep Gv m 118 [.str a0]) := by
  obtain ⟨m, rfl⟩ : ∃ m', m = m' + 1 := ⟨m - 1, by omega⟩
  rw [show callv Tryz.prog ti keep Gv (m + 1) 118 _ = _ from callv_enter ((bq hG 118).trans rfl) Tryz.func118 (by kernel_rfl) rfl rfl]
  unfold spec_l04Long.f
  repeat' first
   | ((with_reducible refine Im.nat (fun k => spec_l04Long.j0 k _ _) _ ?_ (fun kj hkj => ?_)); rfl; (conv => arg 2; simp only [spec_l04Long.j0, Bool.false_eq_true, reduceIte])) | (with_reducible first | exact Im.none | refine Im.ite (fun h => ?_) (fun h => ?_) | refine Im.sbind ?_)
   | ((conv => arg 3; whnf); first
    | ((with_reducible refine Im.fin ?_); exact zr) | ((with_reducible refine Im.anyo ?_ ?_); kernel_rfl) | ((with_reducible refine Im.bite_t ?_ ?_); exact zq) | ((with_reducible refine Im.bite_f ?_ ?_); exact zq) | ((with_reducible refine Im.bite_t ?_ ?_); exact zd) | ((with_reducible refine Im.must ?_ ?_); exact zd) | ((with_reducible refine Im.bite_f ?_ ?_); exact zd) | (with_reducible refine Im.byl ?_) | ((with_reducible refine Im.vget ByteArray.empty ?_ ?_ ?_); exact zd; exact zd) | ((with_reducible refine Im.vget z130 ?_ ?_ ?_); exact zd; exact zd) | ((with_reducible refine Im.vget z47 ?_ ?_ ?_); exact zd; exact zd) | ((with_reducible refine Im.vget z39 ?_ ?_ ?_); exact zd; exact zd) | ((with_reducible refine Im.vget z67 ?_ ?_ ?_); exact zd; exact zd) | ((with_reducible refine Im.vget z185 ?_ ?_ ?_); exact zd; exact zd) | ((with_reducible refine Im.vget z139 ?_ ?_ ?_); exact zd; exact zd) | ((with_reducible refine Im.vget (0 : Int) ?_ ?_ ?_); exact zd; exact zd) | ((with_reducible refine Im.vget false ?_ ?_ ?_); exact zd; exact zd)
    | exact zm | exact zx | fail)
theorem spec_PackOk.vi {k m : Nat} {Gv : GvT} (hG : Base Gv) (hm : k + 9 ≤ m) (a0_0 : ByteArray) (a0_1 : ByteArray) (a0_2 : ByteArray) (l0_3 : List (S130)) (a0_4 : Bool) (l0_5 : List ByteArray) : Im (fun r => (.bool r, [])) (spec_PackOk.f k a0_0 a0_1 a0_2 l0_3 a0_4 l0_5) (callv Tryz.prog ti keep Gv m 72 [.ag [.str a0_0, .str a0_1, .str a0_2, .sl (l0_3.map e130), .bool a0_4, .sl (l0_5.map VV.str)]]) := by
  obtain ⟨m, rfl⟩ : ∃ m', m = m' + 1 := ⟨m - 1, by omega⟩
  rw [show callv Tryz.prog ti keep Gv (m + 1) 72 _ = _ from callv_enter ((bq hG 72).trans rfl) Tryz.func72 (by kernel_rfl) rfl rfl]
  unfold spec_PackOk.f
  repeat' first
   | (with_reducible first | exact Im.none | refine Im.ite (fun h => ?_) (fun h => ?_) | refine Im.sbind ?_)
   | ((conv => arg 3; whnf); first
    | ((with_reducible refine Im.fin ?_); exact zr) | ((with_reducible refine Im.anyo ?_ ?_); kernel_rfl) | ((with_reducible refine Im.bite_t ?_ ?_); exact zq) | ((with_reducible refine Im.bite_f ?_ ?_); exact zq) | ((with_reducible refine Im.bite_t ?_ ?_); exact zd) | ((with_reducible refine Im.must ?_ ?_); exact zd) | ((with_reducible refine Im.bite_f ?_ ?_); exact zd) | (with_reducible refine Im.byl ?_) | ((with_reducible refine Im.vget ByteArray.empty ?_ ?_ ?_); exact zd; exact zd) | ((with_reducible refine Im.vget z130 ?_ ?_ ?_); exact zd; exact zd) | ((with_reducible refine Im.vget z47 ?_ ?_ ?_); exact zd; exact zd) | ((with_reducible refine Im.vget z39 ?_ ?_ ?_); exact zd; exact zd) | ((with_reducible refine Im.vget z67 ?_ ?_ ?_); exact zd; exact zd) | ((with_reducible refine Im.vget z185 ?_ ?_ ?_); exact zd; exact zd) | ((with_reducible refine Im.vget z139 ?_ ?_ ?_); exact zd; exact zd) | ((with_reducible refine Im.vget (0 : Int) ?_ ?_ ?_); exact zd; exact zd) | ((with_reducible refine Im.vget false ?_ ?_ ?_); exact zd; exact zd) | ((with_reducible refine Im.call (spec_Exact.vi hG ?_ _) ?_ (fun r hr => ?_)); omega; exact zr) | ((with_reducible refine Im.call (spec_NameOk.vi hG ?_ _) ?_ (fun r hr => ?_)); omega; exact zr) | ((with_reducible refine Im.call (spec_PlainOk.vi hG ?_ _) ?_ (fun r hr => ?_)); omega; exact zr) | ((with_reducible refine Im.call (spec_l04Long.vi hG ?_ _) ?_ (fun r hr => ?_)); omega; exact zr) | ((with_reducible refine ih1 _ ⟨_, _, _, _, _, _, _⟩ _ ?_ ?_); exact zo; exact zr) | ((with_reducible refine Im.loop (S := fun s : Int × ByteArray × ByteArray × ByteArray × List (S130) × Bool × List ByteArray => .un :: .bx [.str s.2.1, .str s.2.2.1, .str s.2.2.2.1, .sl (s.2.2.2.2.1.map e130), .bool s.2.2.2.2.2.1, .sl (s.2.2.2.2.2.2.map VV.str)] :: .un :: .int s.1 :: u57) (L := fun k s => spec_PackOk.l0 k s.1 s.2.1 s.2.2.1 s.2.2.2.1 s.2.2.2.2.1 s.2.2.2.2.2.1 s.2.2.2.2.2.2) _ ?_ ?_ _ _ ⟨_, _, _, _, _, _, _⟩ _ (Nat.le_refl _) zo ?_); (next => intro s; rfl); rotate_left; exact zr; intro k1 M1 ⟨x3, x342000, x342001, x342002, x342003, x342004, x342005⟩ hk1 hM1 ih1; conv => arg 2; simp only [spec_PackOk.l0])
    | exact zm | exact zx | fail)
theorem spec_Find.vi {k m : Nat} {Gv : GvT} (hG : Base Gv) (hm : k + 2 ≤ m) (l0_0 : List ByteArray) (l0_1 : List (S47)) (a1 : ByteArray) : Im (fun r => (.int r, [])) (spec_Find.f k l0_0 l0_1 a1) (callv Tryz.prog ti keep Gv m 84 [.ag [.sl (l0_0.map VV.str), .sl (l0_1.map e47)], .str a1]) := by
  obtain ⟨m, rfl⟩ : ∃ m', m = m' + 1 := ⟨m - 1, by omega⟩
  rw [show callv Tryz.prog ti keep Gv (m + 1) 84 _ = _ from callv_enter ((bq hG 84).trans rfl) Tryz.func84 (by kernel_rfl) rfl rfl]
  unfold spec_Find.f
  repeat' first
   | (with_reducible first | exact Im.none | refine Im.ite (fun h => ?_) (fun h => ?_) | refine Im.sbind ?_)
   | ((conv => arg 3; whnf); first
    | ((with_reducible refine Im.fin ?_); exact zr) | ((with_reducible refine Im.anyo ?_ ?_); kernel_rfl) | ((with_reducible refine Im.bite_t ?_ ?_); exact zq) | ((with_reducible refine Im.bite_f ?_ ?_); exact zq) | ((with_reducible refine Im.bite_t ?_ ?_); exact zd) | ((with_reducible refine Im.must ?_ ?_); exact zd) | ((with_reducible refine Im.bite_f ?_ ?_); exact zd) | (with_reducible refine Im.byl ?_) | ((with_reducible refine Im.vget ByteArray.empty ?_ ?_ ?_); exact zd; exact zd) | ((with_reducible refine Im.vget z130 ?_ ?_ ?_); exact zd; exact zd) | ((with_reducible refine Im.vget z47 ?_ ?_ ?_); exact zd; exact zd) | ((with_reducible refine Im.vget z39 ?_ ?_ ?_); exact zd; exact zd) | ((with_reducible refine Im.vget z67 ?_ ?_ ?_); exact zd; exact zd) | ((with_reducible refine Im.vget z185 ?_ ?_ ?_); exact zd; exact zd) | ((with_reducible refine Im.vget z139 ?_ ?_ ?_); exact zd; exact zd) | ((with_reducible refine Im.vget (0 : Int) ?_ ?_ ?_); exact zd; exact zd) | ((with_reducible refine Im.vget false ?_ ?_ ?_); exact zd; exact zd) | ((with_reducible refine Im.call (spec_KeyOf.vi hG ?_ _ _ _ _ _ _) ?_ (fun r hr => ?_)); omega; exact zr) | ((with_reducible refine ih1 _ ⟨_, _, _, _⟩ _ ?_ ?_); exact zo; exact zr) | ((with_reducible refine Im.loop (S := fun s : ByteArray × Int × List ByteArray × List (S47) => .un :: .str s.1 :: .bx [.sl (s.2.2.1.map VV.str), .sl (s.2.2.2.map e47)] :: .un :: .un :: .int s.2.1 :: u16) (L := fun k s => spec_Find.l0 k s.1 s.2.1 s.2.2.1 s.2.2.2) _ ?_ ?_ _ _ ⟨_, _, _, _⟩ _ (Nat.le_refl _) zo ?_); (next => intro s; rfl); rotate_left; exact zr; intro k1 M1 ⟨x1, x5, x353000, x353001⟩ hk1 hM1 ih1; conv => arg 2; simp only [spec_Find.l0])
    | exact zm | exact zx | fail)
theorem spec_l04Keys.vi {k m : Nat} {Gv : GvT} (hG : Base Gv) (hm : k + 3 ≤ m) (l0_0 : List ByteArray) (l0_1 : List (S47)) (l1 : List ByteArray) : Im (fun r => (.bool r, [])) (spec_l04Keys.f k l0_0 l0_1 l1) (callv Tryz.prog ti keep Gv m 73 [.ag [.sl (l0_0.map VV.str), .sl (l0_1.map e47)], .sl (l1.map VV.str)]) := by
  obtain ⟨m, rfl⟩ : ∃ m', m = m' + 1 := ⟨m - 1, by omega⟩
  rw [show callv Tryz.prog ti keep Gv (m + 1) 73 _ = _ from callv_enter ((bq hG 73).trans rfl) Tryz.func73 (by kernel_rfl) rfl rfl]
  unfold spec_l04Keys.f
  repeat' first
   | (with_reducible first | exact Im.none | refine Im.ite (fun h => ?_) (fun h => ?_) | refine Im.sbind ?_)
   | ((conv => arg 3; whnf); first
    | ((with_reducible refine Im.fin ?_); exact zr) | ((with_reducible refine Im.anyo ?_ ?_); kernel_rfl) | ((with_reducible refine Im.bite_t ?_ ?_); exact zq) | ((with_reducible refine Im.bite_f ?_ ?_); exact zq) | ((with_reducible refine Im.bite_t ?_ ?_); exact zd) | ((with_reducible refine Im.must ?_ ?_); exact zd) | ((with_reducible refine Im.bite_f ?_ ?_); exact zd) | (with_reducible refine Im.byl ?_) | ((with_reducible refine Im.vget ByteArray.empty ?_ ?_ ?_); exact zd; exact zd) | ((with_reducible refine Im.vget z130 ?_ ?_ ?_); exact zd; exact zd) | ((with_reducible refine Im.vget z47 ?_ ?_ ?_); exact zd; exact zd) | ((with_reducible refine Im.vget z39 ?_ ?_ ?_); exact zd; exact zd) | ((with_reducible refine Im.vget z67 ?_ ?_ ?_); exact zd; exact zd) | ((with_reducible refine Im.vget z185 ?_ ?_ ?_); exact zd; exact zd) | ((with_reducible refine Im.vget z139 ?_ ?_ ?_); exact zd; exact zd) | ((with_reducible refine Im.vget (0 : Int) ?_ ?_ ?_); exact zd; exact zd) | ((with_reducible refine Im.vget false ?_ ?_ ?_); exact zd; exact zd) | ((with_reducible refine Im.call (spec_Find.vi hG ?_ _ _ _) ?_ (fun r hr => ?_)); omega; exact zr) | ((with_reducible refine ih1 _ ⟨_, _, _, _⟩ _ ?_ ?_); exact zo; exact zr) | ((with_reducible refine Im.loop (S := fun s : List ByteArray × Int × List ByteArray × List (S47) => .un :: .sl (s.1.map VV.str) :: .bx [.sl (s.2.2.1.map VV.str), .sl (s.2.2.2.map e47)] :: .un :: .un :: .int s.2.1 :: u29) (L := fun k s => spec_l04Keys.l0 k s.1 s.2.1 s.2.2.1 s.2.2.2) _ ?_ ?_ _ _ ⟨_, _, _, _⟩ _ (Nat.le_refl _) zo ?_); (next => intro s; rfl); rotate_left; exact zr; intro k1 M1 ⟨x1, x5, x356000, x356001⟩ hk1 hM1 ih1; conv => arg 2; simp only [spec_l04Keys.l0])
    | exact zm | exact zx | fail)
theorem spec_GraphOk.vi {k m : Nat} {Gv : GvT} (hG : Base Gv) (hm : k + 10 ≤ m) (l0_0 : List ByteArray) (l0_1 : List (S47)) : Im (fun r => (.bool r, [])) (spec_GraphOk.f k l0_0 l0_1) (callv Tryz.prog ti keep Gv m 28 [.ag [.sl (l0_0.map VV.str), .sl (l0_1.map e47)]]) := by
  obtain ⟨m, rfl⟩ : ∃ m', m = m' + 1 := ⟨m - 1, by omega⟩
  rw [show callv Tryz.prog ti keep Gv (m + 1) 28 _ = _ from callv_enter ((bq hG 28).trans rfl) Tryz.func28 (by kernel_rfl) rfl rfl]
  unfold spec_GraphOk.f
  repeat' first
   | (with_reducible first | exact Im.none | refine Im.ite (fun h => ?_) (fun h => ?_) | refine Im.sbind ?_)
   | ((conv => arg 3; whnf); first
    | ((with_reducible refine Im.fin ?_); exact zr) | ((with_reducible refine Im.anyo ?_ ?_); kernel_rfl) | ((with_reducible refine Im.bite_t ?_ ?_); exact zq) | ((with_reducible refine Im.bite_f ?_ ?_); exact zq) | ((with_reducible refine Im.bite_t ?_ ?_); exact zd) | ((with_reducible refine Im.must ?_ ?_); exact zd) | ((with_reducible refine Im.bite_f ?_ ?_); exact zd) | (with_reducible refine Im.byl ?_) | ((with_reducible refine Im.vget ByteArray.empty ?_ ?_ ?_); exact zd; exact zd) | ((with_reducible refine Im.vget z130 ?_ ?_ ?_); exact zd; exact zd) | ((with_reducible refine Im.vget z47 ?_ ?_ ?_); exact zd; exact zd) | ((with_reducible refine Im.vget z39 ?_ ?_ ?_); exact zd; exact zd) | ((with_reducible refine Im.vget z67 ?_ ?_ ?_); exact zd; exact zd) | ((with_reducible refine Im.vget z185 ?_ ?_ ?_); exact zd; exact zd) | ((with_reducible refine Im.vget z139 ?_ ?_ ?_); exact zd; exact zd) | ((with_reducible refine Im.vget (0 : Int) ?_ ?_ ?_); exact zd; exact zd) | ((with_reducible refine Im.vget false ?_ ?_ ?_); exact zd; exact zd) | ((with_reducible refine Im.call (spec_KeyOf.vi hG ?_ _ _ _ _ _ _) ?_ (fun r hr => ?_)); omega; exact zr) | ((with_reducible refine Im.call (spec_PackOk.vi hG ?_ _ _ _ _ _ _) ?_ (fun r hr => ?_)); omega; exact zr) | ((with_reducible refine Im.call (spec_l04Keys.vi hG ?_ _ _ _) ?_ (fun r hr => ?_)); omega; exact zr) | ((with_reducible refine ih1 _ ⟨_, _, _⟩ _ ?_ ?_); exact zo; exact zr) | ((with_reducible refine Im.loop (S := fun s : Int × List ByteArray × List (S47) => .un :: .bx [.sl (s.2.1.map VV.str), .sl (s.2.2.map e47)] :: .un :: .int s.1 :: u55) (L := fun k s => spec_GraphOk.l0 k s.1 s.2.1 s.2.2) _ ?_ ?_ _ _ ⟨_, _, _⟩ _ (Nat.le_refl _) zo ?_); (next => intro s; rfl); rotate_left; exact zr; intro k1 M1 ⟨x3, x361000, x361001⟩ hk1 hM1 ih1; conv => arg 2; simp only [spec_GraphOk.l0])
    | exact zm | exact zx | fail)
end Go.Proofs.YtieohddolkeegaaGreatDoor.VI

end
section
namespace Go.Proofs.YtieohddolkeegaaGreatDoor.VI
open Go Go.RowKit Go.Proofs.YtieohddolkeegaaGreatDoor.G Go.Proofs.YtieohddolkeegaaGreatDoorW.PrintWords
set_option maxRecDepth 100000
set_option maxHeartbeats 16000000
theorem impl_ReadDec.vi {m : Nat} {Gv : GvT} (hG : Base Gv) (hm : 1 ≤ m) (a0 : ByteArray) : Im (fun r => (.int r, [])) (impl_ReadDec.f a0) (callv Tryz.prog ti keep Gv m 104 [.str a0]) := by
  obtain ⟨m, rfl⟩ : ∃ m', m = m' + 1 := ⟨m - 1, by omega⟩
  rw [show callv Tryz.prog ti keep Gv (m + 1) 104 _ = _ from callv_given ((bq hG 104).trans rfl)]
  intro r h
  rw [show impl_ReadDec.gv [.str a0] = (impl_ReadDec.f a0).map (fun r => (.int r, [])) from rfl, h]
  rfl
theorem strconv_Itoa.vi {m : Nat} {Gv : GvT} (hG : Base Gv) (hm : 1 ≤ m) (a0 : Int) : Im (fun r => (.str r, [])) (strconv_Itoa.f a0) (callv Tryz.prog ti keep Gv m 176 [.int a0]) := by
  obtain ⟨m, rfl⟩ : ∃ m', m = m' + 1 := ⟨m - 1, by omega⟩
  rw [show callv Tryz.prog ti keep Gv (m + 1) 176 _ = _ from callv_given ((bq hG 176).trans rfl)]
  intro r h
  rw [show strconv_Itoa.gv [.int a0] = (strconv_Itoa.f a0).map (fun r => (.str r, [])) from rfl, h]
  rfl
theorem strings_Join.vi {m : Nat} {Gv : GvT} (hG : Base Gv) (hm : 1 ≤ m) (l0 : List ByteArray) (a1 : ByteArray) : Im (fun r => (.str r, [])) (strings_Join.f l0 a1) (callv Tryz.prog ti keep Gv m 44 [.sl (l0.map VV.str), .str a1]) := by
  obtain ⟨m, rfl⟩ : ∃ m', m = m' + 1 := ⟨m - 1, by omega⟩
  rw [show callv Tryz.prog ti keep Gv (m + 1) 44 _ = _ from callv_given ((bq hG 44).trans rfl)]
  intro r h
  show obind (unS (l0.map VV.str)) _ = _
  rw [unS_map]
  show (strings_Join.f l0 a1).map _ = _
  rw [h]
  rfl
theorem strings_Cut.vi {m : Nat} {Gv : GvT} (hG : Base Gv) (hm : 1 ≤ m) (a0 : ByteArray) (a1 : ByteArray) : Im (fun r => (.tu [.str r.1, .str r.2.1, .bool r.2.2], [])) (strings_Cut.f a0 a1) (callv Tryz.prog ti keep Gv m 94 [.str a0, .str a1]) := by
  obtain ⟨m, rfl⟩ : ∃ m', m = m' + 1 := ⟨m - 1, by omega⟩
  rw [show callv Tryz.prog ti keep Gv (m + 1) 94 _ = _ from callv_given ((bq hG 94).trans rfl)]
  intro r h
  rw [show strings_Cut.gv [.str a0, .str a1] = (strings_Cut.f a0 a1).map (fun r => (.tu [.str r.1, .str r.2.1, .bool r.2.2], [])) from rfl, h]
  rfl
theorem strings_Split.vi {m : Nat} {Gv : GvT} (hG : Base Gv) (hm : 1 ≤ m) (a0 : ByteArray) (a1 : ByteArray) : Im (fun r => (.ow 9 1 (r.map VV.str), [])) (strings_Split.f a0 a1) (callv Tryz.prog ti keep Gv m 47 [.str a0, .str a1]) := by
  obtain ⟨m, rfl⟩ : ∃ m', m = m' + 1 := ⟨m - 1, by omega⟩
  rw [show callv Tryz.prog ti keep Gv (m + 1) 47 _ = _ from callv_given ((bq hG 47).trans rfl)]
  intro r h
  rw [show strings_Split.gv [.str a0, .str a1] = (strings_Split.f a0 a1).map (fun r => (.ow 9 1 (r.map VV.str), [])) from rfl, h]
  rfl
theorem slices_Clone_string_string.vi {m : Nat} {Gv : GvT} (hG : Base Gv) (hm : 1 ≤ m) (l0 : List ByteArray) : Im (fun r => (.ow 9 1 (r.map VV.str), [])) (slices_Clone_string_string.f l0) (callv Tryz.prog ti keep Gv m 75 [.sl (l0.map VV.str)]) := by
  obtain ⟨m, rfl⟩ : ∃ m', m = m' + 1 := ⟨m - 1, by omega⟩
  rw [show callv Tryz.prog ti keep Gv (m + 1) 75 _ = _ from callv_given ((bq hG 75).trans rfl)]
  intro r h
  show obind (unS (l0.map VV.str)) _ = _
  rw [unS_map]
  show (slices_Clone_string_string.f l0).map _ = _
  rw [h]
  rfl
theorem strings_HasPrefix.vi {m : Nat} {Gv : GvT} (hG : Base Gv) (hm : 1 ≤ m) (a0 : ByteArray) (a1 : ByteArray) : Im (fun r => (.bool r, [])) (strings_HasPrefix.f a0 a1) (callv Tryz.prog ti keep Gv m 49 [.str a0, .str a1]) := by
  obtain ⟨m, rfl⟩ : ∃ m', m = m' + 1 := ⟨m - 1, by omega⟩
  rw [show callv Tryz.prog ti keep Gv (m + 1) 49 _ = _ from callv_given ((bq hG 49).trans rfl)]
  intro r h
  rw [show strings_HasPrefix.gv [.str a0, .str a1] = (strings_HasPrefix.f a0 a1).map (fun r => (.bool r, [])) from rfl, h]
  rfl
theorem strings_TrimPrefix.vi {m : Nat} {Gv : GvT} (hG : Base Gv) (hm : 1 ≤ m) (a0 : ByteArray) (a1 : ByteArray) : Im (fun r => (.str r, [])) (strings_TrimPrefix.f a0 a1) (callv Tryz.prog ti keep Gv m 187 [.str a0, .str a1]) := by
  obtain ⟨m, rfl⟩ : ∃ m', m = m' + 1 := ⟨m - 1, by omega⟩
  rw [show callv Tryz.prog ti keep Gv (m + 1) 187 _ = _ from callv_given ((bq hG 187).trans rfl)]
  intro r h
  rw [show strings_TrimPrefix.gv [.str a0, .str a1] = (strings_TrimPrefix.f a0 a1).map (fun r => (.str r, [])) from rfl, h]
  rfl
end Go.Proofs.YtieohddolkeegaaGreatDoor.VI

end
section
namespace Go.Proofs.YtieohddolkeegaaGreatDoor.VI
open Go Go.RowKit Go.Proofs.YtieohddolkeegaaGreatDoor.G Go.Proofs.YtieohddolkeegaaGreatDoorW.PrintWords
set_option maxRecDepth 100000
set_option maxHeartbeats 16000000
attribute [local irreducible] bite obind vget
attribute [local simp] rd_T130_eq rd_T47_eq rd_T39_eq rd_T67_eq rd_T185_eq rd_T139_eq
theorem impl_DecText.vi {m : Nat} {Gv : GvT} (hG : Base Gv) (hm : 2 ≤ m) (a0 : Int) : Im (fun r => (.str r, [])) (impl_DecText.f a0) (callv Tryz.prog ti keep Gv m 140 [.int a0]) := by
  obtain ⟨m, rfl⟩ : ∃ m', m = m' + 1 := ⟨m - 1, by omega⟩
  rw [show callv Tryz.prog ti keep Gv (m + 1) 140 _ = _ from callv_enter ((bq hG 140).trans rfl) Tryz.func140 (by kernel_rfl) rfl rfl]
  unfold impl_DecText.f
  repeat' first
   | (with_reducible first | exact Im.none | refine Im.ite (fun h => ?_) (fun h => ?_) | refine Im.sbind ?_)
   | ((conv => arg 3; whnf); first
    | ((with_reducible refine Im.fin ?_); exact zr) | ((with_reducible refine Im.anyo ?_ ?_); kernel_rfl) | ((with_reducible refine Im.bite_t ?_ ?_); exact zq) | ((with_reducible refine Im.bite_f ?_ ?_); exact zq) | ((with_reducible refine Im.bite_t ?_ ?_); exact zd) | ((with_reducible refine Im.must ?_ ?_); exact zd) | ((with_reducible refine Im.bite_f ?_ ?_); exact zd) | (with_reducible refine Im.byl ?_) | ((with_reducible refine Im.vget ByteArray.empty ?_ ?_ ?_); exact zd; exact zd) | ((with_reducible refine Im.vget z130 ?_ ?_ ?_); exact zd; exact zd) | ((with_reducible refine Im.vget z47 ?_ ?_ ?_); exact zd; exact zd) | ((with_reducible refine Im.vget z39 ?_ ?_ ?_); exact zd; exact zd) | ((with_reducible refine Im.vget z67 ?_ ?_ ?_); exact zd; exact zd) | ((with_reducible refine Im.vget z185 ?_ ?_ ?_); exact zd; exact zd) | ((with_reducible refine Im.vget z139 ?_ ?_ ?_); exact zd; exact zd) | ((with_reducible refine Im.vget (0 : Int) ?_ ?_ ?_); exact zd; exact zd) | ((with_reducible refine Im.vget false ?_ ?_ ?_); exact zd; exact zd) | ((with_reducible refine Im.call (strconv_Itoa.vi hG ?_ _) ?_ (fun r hr => ?_)); omega; exact zr)
    | exact zm | exact zx | fail)
theorem impl_VersionOk.vi {k m : Nat} {Gv : GvT} (hG : Base Gv) (hm : k + 5 ≤ m) (a0_0 : Int) (a0_1 : Int) (a0_2 : Int) (l0_3 : List ByteArray) : Im (fun r => (.bool r, [])) (impl_VersionOk.f k a0_0 a0_1 a0_2 l0_3) (callv Tryz.prog ti keep Gv m 141 [.ag [.int a0_0, .int a0_1, .int a0_2, .sl (l0_3.map VV.str)]]) := by
  obtain ⟨m, rfl⟩ : ∃ m', m = m' + 1 := ⟨m - 1, by omega⟩
  rw [show callv Tryz.prog ti keep Gv (m + 1) 141 _ = _ from callv_enter ((bq hG 141).trans rfl) Tryz.func141 (by kernel_rfl) rfl rfl]
  unfold impl_VersionOk.f
  repeat' first
   | (with_reducible first | exact Im.none | refine Im.ite (fun h => ?_) (fun h => ?_) | refine Im.sbind ?_)
   | ((conv => arg 3; whnf); first
    | ((with_reducible refine Im.fin ?_); exact zr) | ((with_reducible refine Im.anyo ?_ ?_); kernel_rfl) | ((with_reducible refine Im.bite_t ?_ ?_); exact zq) | ((with_reducible refine Im.bite_f ?_ ?_); exact zq) | ((with_reducible refine Im.bite_t ?_ ?_); exact zd) | ((with_reducible refine Im.must ?_ ?_); exact zd) | ((with_reducible refine Im.bite_f ?_ ?_); exact zd) | (with_reducible refine Im.byl ?_) | ((with_reducible refine Im.vget ByteArray.empty ?_ ?_ ?_); exact zd; exact zd) | ((with_reducible refine Im.vget z130 ?_ ?_ ?_); exact zd; exact zd) | ((with_reducible refine Im.vget z47 ?_ ?_ ?_); exact zd; exact zd) | ((with_reducible refine Im.vget z39 ?_ ?_ ?_); exact zd; exact zd) | ((with_reducible refine Im.vget z67 ?_ ?_ ?_); exact zd; exact zd) | ((with_reducible refine Im.vget z185 ?_ ?_ ?_); exact zd; exact zd) | ((with_reducible refine Im.vget z139 ?_ ?_ ?_); exact zd; exact zd) | ((with_reducible refine Im.vget (0 : Int) ?_ ?_ ?_); exact zd; exact zd) | ((with_reducible refine Im.vget false ?_ ?_ ?_); exact zd; exact zd) | ((with_reducible refine Im.call (impl_ReadDec.vi hG ?_ _) ?_ (fun r hr => ?_)); omega; exact zr) | ((with_reducible refine Im.call (impl_all__impl_VersionOk_1.vi hG ?_ _) ?_ (fun r hr => ?_)); omega; exact zr) | ((with_reducible refine Im.call (impl_isNumber.vi hG ?_ _) ?_ (fun r hr => ?_)); omega; exact zr) | ((with_reducible refine Im.call (impl_within.vi hG ?_ _ _ _) ?_ (fun r hr => ?_)); omega; exact zr) | ((with_reducible refine ih1 _ ⟨_, _, _, _, _, _, _⟩ _ ?_ ?_); exact zo; exact zr) | ((with_reducible refine ih2 _ ⟨_, _, _, _, _, _, _⟩ _ ?_ ?_); exact zo; exact zr) | ((with_reducible refine Im.loop (S := fun s : List Int × Int × Int × Int × Int × Int × List ByteArray => .un :: .bx [.int s.2.2.2.1, .int s.2.2.2.2.1, .int s.2.2.2.2.2.1, .sl (s.2.2.2.2.2.2.map VV.str)] :: .un :: .un :: .un :: .un :: .un :: .un :: .un :: .un :: .un :: .un :: .un :: .ow 3 1 (s.1.map VV.int) :: .int s.2.1 :: .int s.2.2.1 :: u37) (L := fun k s => impl_VersionOk.l0 k s.1 s.2.1 s.2.2.1 s.2.2.2.1 s.2.2.2.2.1 s.2.2.2.2.2.1 s.2.2.2.2.2.2) _ ?_ ?_ _ _ ⟨_, _, _, _, _, _, _⟩ _ (Nat.le_refl _) zo ?_); (next => intro s; rfl); rotate_left; exact zr; intro k1 M1 ⟨x13, x14, x15, x110000, x110001, x110002, x110003⟩ hk1 hM1 ih1; conv => arg 2; simp only [impl_VersionOk.l0]) | ((with_reducible refine Im.loop (S := fun s : List ByteArray × Int × Int × Int × Int × Int × List ByteArray => .un :: .bx [.int s.2.2.2.1, .int s.2.2.2.2.1, .int s.2.2.2.2.2.1, .sl (s.2.2.2.2.2.2.map VV.str)] :: .un :: .un :: .un :: .un :: .un :: .un :: .un :: .un :: .un :: .un :: .un :: .un :: .un :: .un :: .un :: .un :: .un :: .un :: .un :: .un :: .un :: .un :: .sl (s.1.map VV.str) :: .int s.2.1 :: .int s.2.2.1 :: u26) (L := fun k s => impl_VersionOk.l1 k s.1 s.2.1 s.2.2.1 s.2.2.2.1 s.2.2.2.2.1 s.2.2.2.2.2.1 s.2.2.2.2.2.2) _ ?_ ?_ _ _ ⟨_, _, _, _, _, _, _⟩ _ (Nat.le_refl _) zo ?_); (next => intro s; rfl); rotate_left; exact zr; intro k2 M2 ⟨x24, x25, x26, x110000, x110001, x110002, x110003⟩ hk2 hM2 ih2; conv => arg 2; simp only [impl_VersionOk.l1])
    | exact zm | exact zx | fail)
theorem impl_VersionText.vi {k m : Nat} {Gv : GvT} (hG : Base Gv) (hm : k + 6 ≤ m) (a0_0 : Int) (a0_1 : Int) (a0_2 : Int) (l0_3 : List ByteArray) : Im (fun r => (.str r, [])) (impl_VersionText.f k a0_0 a0_1 a0_2 l0_3) (callv Tryz.prog ti keep Gv m 105 [.ag [.int a0_0, .int a0_1, .int a0_2, .sl (l0_3.map VV.str)]]) := by
  obtain ⟨m, rfl⟩ : ∃ m', m = m' + 1 := ⟨m - 1, by omega⟩
  rw [show callv Tryz.prog ti keep Gv (m + 1) 105 _ = _ from callv_enter ((bq hG 105).trans rfl) Tryz.func105 (by kernel_rfl) rfl rfl]
  unfold impl_VersionText.f
  repeat' first
   | (with_reducible first | exact Im.none | refine Im.ite (fun h => ?_) (fun h => ?_) | refine Im.sbind ?_)
   | ((conv => arg 3; whnf); first
    | ((with_reducible refine Im.fin ?_); exact zr) | ((with_reducible refine Im.anyo ?_ ?_); kernel_rfl) | ((with_reducible refine Im.bite_t ?_ ?_); exact zq) | ((with_reducible refine Im.bite_f ?_ ?_); exact zq) | ((with_reducible refine Im.bite_t ?_ ?_); exact zd) | ((with_reducible refine Im.must ?_ ?_); exact zd) | ((with_reducible refine Im.bite_f ?_ ?_); exact zd) | (with_reducible refine Im.byl ?_) | ((with_reducible refine Im.vget ByteArray.empty ?_ ?_ ?_); exact zd; exact zd) | ((with_reducible refine Im.vget z130 ?_ ?_ ?_); exact zd; exact zd) | ((with_reducible refine Im.vget z47 ?_ ?_ ?_); exact zd; exact zd) | ((with_reducible refine Im.vget z39 ?_ ?_ ?_); exact zd; exact zd) | ((with_reducible refine Im.vget z67 ?_ ?_ ?_); exact zd; exact zd) | ((with_reducible refine Im.vget z185 ?_ ?_ ?_); exact zd; exact zd) | ((with_reducible refine Im.vget z139 ?_ ?_ ?_); exact zd; exact zd) | ((with_reducible refine Im.vget (0 : Int) ?_ ?_ ?_); exact zd; exact zd) | ((with_reducible refine Im.vget false ?_ ?_ ?_); exact zd; exact zd) | ((with_reducible refine Im.call (impl_DecText.vi hG ?_ _) ?_ (fun r hr => ?_)); omega; exact zr) | ((with_reducible refine Im.call (impl_VersionOk.vi hG ?_ _ _ _ _) ?_ (fun r hr => ?_)); omega; exact zr) | ((with_reducible refine Im.call (strings_Join.vi hG ?_ _ _) ?_ (fun r hr => ?_)); omega; exact zr)
    | exact zm | exact zx | fail)
theorem impl_ReadVersion.vi {k m : Nat} {Gv : GvT} (hG : Base Gv) (hm : k + 7 ≤ m) (a0 : ByteArray) : Im (fun r => (.tu [.ag [.int r.1, .int r.2.1, .int r.2.2.1, .sl (r.2.2.2.1.map VV.str)], .bool r.2.2.2.2], [])) (impl_ReadVersion.f k a0) (callv Tryz.prog ti keep Gv m 53 [.str a0]) := by
  obtain ⟨m, rfl⟩ : ∃ m', m = m' + 1 := ⟨m - 1, by omega⟩
  rw [show callv Tryz.prog ti keep Gv (m + 1) 53 _ = _ from callv_enter ((bq hG 53).trans rfl) Tryz.func53 (by kernel_rfl) rfl rfl]
  unfold impl_ReadVersion.f
  repeat' first
   | (with_reducible first | exact Im.none | refine Im.ite (fun h => ?_) (fun h => ?_) | refine Im.sbind ?_)
   | ((conv => arg 3; whnf); first
    | ((with_reducible refine Im.fin ?_); exact zr) | ((with_reducible refine Im.anyo ?_ ?_); kernel_rfl) | ((with_reducible refine Im.bite_t ?_ ?_); exact zq) | ((with_reducible refine Im.bite_f ?_ ?_); exact zq) | ((with_reducible refine Im.bite_t ?_ ?_); exact zd) | ((with_reducible refine Im.must ?_ ?_); exact zd) | ((with_reducible refine Im.bite_f ?_ ?_); exact zd) | (with_reducible refine Im.byl ?_) | ((with_reducible refine Im.vget ByteArray.empty ?_ ?_ ?_); exact zd; exact zd) | ((with_reducible refine Im.vget z130 ?_ ?_ ?_); exact zd; exact zd) | ((with_reducible refine Im.vget z47 ?_ ?_ ?_); exact zd; exact zd) | ((with_reducible refine Im.vget z39 ?_ ?_ ?_); exact zd; exact zd) | ((with_reducible refine Im.vget z67 ?_ ?_ ?_); exact zd; exact zd) | ((with_reducible refine Im.vget z185 ?_ ?_ ?_); exact zd; exact zd) | ((with_reducible refine Im.vget z139 ?_ ?_ ?_); exact zd; exact zd) | ((with_reducible refine Im.vget (0 : Int) ?_ ?_ ?_); exact zd; exact zd) | ((with_reducible refine Im.vget false ?_ ?_ ?_); exact zd; exact zd) | ((with_reducible refine Im.call (impl_ReadDec.vi hG ?_ _) ?_ (fun r hr => ?_)); omega; exact zr) | ((with_reducible refine Im.call (impl_VersionText.vi hG ?_ _ _ _ _) ?_ (fun r hr => ?_)); omega; exact zr) | ((with_reducible refine Im.call (strings_Cut.vi hG ?_ _ _) ?_ (fun r hr => ?_)); omega; exact zr) | ((with_reducible refine Im.call (strings_Split.vi hG ?_ _ _) ?_ (fun r hr => ?_)); omega; exact zr)
    | exact zm | exact zx | fail)
theorem impl_zeroPre.vi {k m : Nat} {Gv : GvT} (hG : Base Gv) (hm : k + 7 ≤ m) (a0 : Int) (a1 : Int) (a2 : Int) : Im (fun r => (.str r, [])) (impl_zeroPre.f k a0 a1 a2) (callv Tryz.prog ti keep Gv m 95 [.int a0, .int a1, .int a2]) := by
  obtain ⟨m, rfl⟩ : ∃ m', m = m' + 1 := ⟨m - 1, by omega⟩
  rw [show callv Tryz.prog ti keep Gv (m + 1) 95 _ = _ from callv_enter ((bq hG 95).trans rfl) Tryz.func95 (by kernel_rfl) rfl rfl]
  unfold impl_zeroPre.f
  repeat' first
   | (with_reducible first | exact Im.none | refine Im.ite (fun h => ?_) (fun h => ?_) | refine Im.sbind ?_)
   | ((conv => arg 3; whnf); first
    | ((with_reducible refine Im.fin ?_); exact zr) | ((with_reducible refine Im.anyo ?_ ?_); kernel_rfl) | ((with_reducible refine Im.bite_t ?_ ?_); exact zq) | ((with_reducible refine Im.bite_f ?_ ?_); exact zq) | ((with_reducible refine Im.bite_t ?_ ?_); exact zd) | ((with_reducible refine Im.must ?_ ?_); exact zd) | ((with_reducible refine Im.bite_f ?_ ?_); exact zd) | (with_reducible refine Im.byl ?_) | ((with_reducible refine Im.vget ByteArray.empty ?_ ?_ ?_); exact zd; exact zd) | ((with_reducible refine Im.vget z130 ?_ ?_ ?_); exact zd; exact zd) | ((with_reducible refine Im.vget z47 ?_ ?_ ?_); exact zd; exact zd) | ((with_reducible refine Im.vget z39 ?_ ?_ ?_); exact zd; exact zd) | ((with_reducible refine Im.vget z67 ?_ ?_ ?_); exact zd; exact zd) | ((with_reducible refine Im.vget z185 ?_ ?_ ?_); exact zd; exact zd) | ((with_reducible refine Im.vget z139 ?_ ?_ ?_); exact zd; exact zd) | ((with_reducible refine Im.vget (0 : Int) ?_ ?_ ?_); exact zd; exact zd) | ((with_reducible refine Im.vget false ?_ ?_ ?_); exact zd; exact zd) | ((with_reducible refine Im.call (impl_VersionText.vi hG ?_ _ _ _ _) ?_ (fun r hr => ?_)); omega; exact zr)
    | exact zm | exact zx | fail)
theorem impl_alone.vi {k m : Nat} {Gv : GvT} (hG : Base Gv) (hm : k + 8 ≤ m) (a0_0 : Int) (a0_1 : Int) (a0_2 : Int) (l0_3 : List ByteArray) : Im (fun r => (.ag [.str r.1, .str r.2], [])) (impl_alone.f k a0_0 a0_1 a0_2 l0_3) (callv Tryz.prog ti keep Gv m 54 [.ag [.int a0_0, .int a0_1, .int a0_2, .sl (l0_3.map VV.str)]]) := by
  obtain ⟨m, rfl⟩ : ∃ m', m = m' + 1 := ⟨m - 1, by omega⟩
  rw [show callv Tryz.prog ti keep Gv (m + 1) 54 _ = _ from callv_enter ((bq hG 54).trans rfl) Tryz.func54 (by kernel_rfl) rfl rfl]
  unfold impl_alone.f
  repeat' first
   | (with_reducible first | exact Im.none | refine Im.ite (fun h => ?_) (fun h => ?_) | refine Im.sbind ?_)
   | ((conv => arg 3; whnf); first
    | ((with_reducible refine Im.fin ?_); exact zr) | ((with_reducible refine Im.anyo ?_ ?_); kernel_rfl) | ((with_reducible refine Im.bite_t ?_ ?_); exact zq) | ((with_reducible refine Im.bite_f ?_ ?_); exact zq) | ((with_reducible refine Im.bite_t ?_ ?_); exact zd) | ((with_reducible refine Im.must ?_ ?_); exact zd) | ((with_reducible refine Im.bite_f ?_ ?_); exact zd) | (with_reducible refine Im.byl ?_) | ((with_reducible refine Im.vget ByteArray.empty ?_ ?_ ?_); exact zd; exact zd) | ((with_reducible refine Im.vget z130 ?_ ?_ ?_); exact zd; exact zd) | ((with_reducible refine Im.vget z47 ?_ ?_ ?_); exact zd; exact zd) | ((with_reducible refine Im.vget z39 ?_ ?_ ?_); exact zd; exact zd) | ((with_reducible refine Im.vget z67 ?_ ?_ ?_); exact zd; exact zd) | ((with_reducible refine Im.vget z185 ?_ ?_ ?_); exact zd; exact zd) | ((with_reducible refine Im.vget z139 ?_ ?_ ?_); exact zd; exact zd) | ((with_reducible refine Im.vget (0 : Int) ?_ ?_ ?_); exact zd; exact zd) | ((with_reducible refine Im.vget false ?_ ?_ ?_); exact zd; exact zd) | ((with_reducible refine Im.call (impl_VersionText.vi hG ?_ _ _ _ _) ?_ (fun r hr => ?_)); omega; exact zr) | ((with_reducible refine Im.call (impl_zeroPre.vi hG ?_ _ _ _) ?_ (fun r hr => ?_)); omega; exact zr) | ((with_reducible refine Im.call (slices_Clone_string_string.vi hG ?_ _) ?_ (fun r hr => ?_)); omega; exact zr)
    | exact zm | exact zx | fail)
theorem impl_Exact.vi {k m : Nat} {Gv : GvT} (hG : Base Gv) (hm : k + 9 ≤ m) (a0 : ByteArray) : Im (fun r => (.ow 67 2 (r.map e67), [])) (impl_Exact.f k a0) (callv Tryz.prog ti keep Gv m 15 [.str a0]) := by
  obtain ⟨m, rfl⟩ : ∃ m', m = m' + 1 := ⟨m - 1, by omega⟩
  rw [show callv Tryz.prog ti keep Gv (m + 1) 15 _ = _ from callv_enter ((bq hG 15).trans rfl) Tryz.func15 (by kernel_rfl) rfl rfl]
  unfold impl_Exact.f
  repeat' first
   | (with_reducible first | exact Im.none | refine Im.ite (fun h => ?_) (fun h => ?_) | refine Im.sbind ?_)
   | ((conv => arg 3; whnf); first
    | ((with_reducible refine Im.fin ?_); exact zr) | ((with_reducible refine Im.anyo ?_ ?_); kernel_rfl) | ((with_reducible refine Im.bite_t ?_ ?_); exact zq) | ((with_reducible refine Im.bite_f ?_ ?_); exact zq) | ((with_reducible refine Im.bite_t ?_ ?_); exact zd) | ((with_reducible refine Im.must ?_ ?_); exact zd) | ((with_reducible refine Im.bite_f ?_ ?_); exact zd) | (with_reducible refine Im.byl ?_) | ((with_reducible refine Im.vget ByteArray.empty ?_ ?_ ?_); exact zd; exact zd) | ((with_reducible refine Im.vget z130 ?_ ?_ ?_); exact zd; exact zd) | ((with_reducible refine Im.vget z47 ?_ ?_ ?_); exact zd; exact zd) | ((with_reducible refine Im.vget z39 ?_ ?_ ?_); exact zd; exact zd) | ((with_reducible refine Im.vget z67 ?_ ?_ ?_); exact zd; exact zd) | ((with_reducible refine Im.vget z185 ?_ ?_ ?_); exact zd; exact zd) | ((with_reducible refine Im.vget z139 ?_ ?_ ?_); exact zd; exact zd) | ((with_reducible refine Im.vget (0 : Int) ?_ ?_ ?_); exact zd; exact zd) | ((with_reducible refine Im.vget false ?_ ?_ ?_); exact zd; exact zd) | ((with_reducible refine Im.call (impl_ReadVersion.vi hG ?_ _) ?_ (fun r hr => ?_)); omega; exact zr) | ((with_reducible refine Im.call (impl_alone.vi hG ?_ _ _ _ _) ?_ (fun r hr => ?_)); omega; exact zr)
    | exact zm | exact zx | fail)
theorem impl_NameOk.vi {k m : Nat} {Gv : GvT} (hG : Base Gv) (hm : k + 4 ≤ m) (a0 : ByteArray) : Im (fun r => (.bool r, [])) (impl_NameOk.f k a0) (callv Tryz.prog ti keep Gv m 149 [.str a0]) := by
  obtain ⟨m, rfl⟩ : ∃ m', m = m' + 1 := ⟨m - 1, by omega⟩
  rw [show callv Tryz.prog ti keep Gv (m + 1) 149 _ = _ from callv_enter ((bq hG 149).trans rfl) Tryz.func149 (by kernel_rfl) rfl rfl]
  unfold impl_NameOk.f
  repeat' first
   | (with_reducible first | exact Im.none | refine Im.ite (fun h => ?_) (fun h => ?_) | refine Im.sbind ?_)
   | ((conv => arg 3; whnf); first
    | ((with_reducible refine Im.fin ?_); exact zr) | ((with_reducible refine Im.anyo ?_ ?_); kernel_rfl) | ((with_reducible refine Im.bite_t ?_ ?_); exact zq) | ((with_reducible refine Im.bite_f ?_ ?_); exact zq) | ((with_reducible refine Im.bite_t ?_ ?_); exact zd) | ((with_reducible refine Im.must ?_ ?_); exact zd) | ((with_reducible refine Im.bite_f ?_ ?_); exact zd) | (with_reducible refine Im.byl ?_) | ((with_reducible refine Im.vget ByteArray.empty ?_ ?_ ?_); exact zd; exact zd) | ((with_reducible refine Im.vget z130 ?_ ?_ ?_); exact zd; exact zd) | ((with_reducible refine Im.vget z47 ?_ ?_ ?_); exact zd; exact zd) | ((with_reducible refine Im.vget z39 ?_ ?_ ?_); exact zd; exact zd) | ((with_reducible refine Im.vget z67 ?_ ?_ ?_); exact zd; exact zd) | ((with_reducible refine Im.vget z185 ?_ ?_ ?_); exact zd; exact zd) | ((with_reducible refine Im.vget z139 ?_ ?_ ?_); exact zd; exact zd) | ((with_reducible refine Im.vget (0 : Int) ?_ ?_ ?_); exact zd; exact zd) | ((with_reducible refine Im.vget false ?_ ?_ ?_); exact zd; exact zd) | ((with_reducible refine Im.call (impl_all__impl_NameOk_1.vi hG ?_ _) ?_ (fun r hr => ?_)); omega; exact zr) | ((with_reducible refine Im.call (strings_HasPrefix.vi hG ?_ _ _) ?_ (fun r hr => ?_)); omega; exact zr) | ((with_reducible refine Im.call (strings_Split.vi hG ?_ _ _) ?_ (fun r hr => ?_)); omega; exact zr) | ((with_reducible refine Im.call (strings_TrimPrefix.vi hG ?_ _ _) ?_ (fun r hr => ?_)); omega; exact zr) | ((with_reducible refine ih1 _ ⟨_, _, _, _, _⟩ _ ?_ ?_); exact zo; exact zr) | ((with_reducible refine Im.loop (S := fun s : ByteArray × Bool × List ByteArray × Int × Int => .str s.1 :: .un :: .un :: .bool s.2.1 :: .un :: .un :: .un :: .un :: .un :: .un :: .ow 9 1 (s.2.2.1.map VV.str) :: .int s.2.2.2.1 :: .int s.2.2.2.2 :: u27) (L := fun k s => impl_NameOk.l0 k s.1 s.2.1 s.2.2.1 s.2.2.2.1 s.2.2.2.2) _ ?_ ?_ _ _ ⟨_, _, _, _, _⟩ _ (Nat.le_refl _) zo ?_); (next => intro s; rfl); rotate_left; exact zr; intro k1 M1 ⟨x0, x3, x10, x11, x12⟩ hk1 hM1 ih1; conv => arg 2; simp only [impl_NameOk.l0])
    | exact zm | exact zx | fail)
theorem impl_PackOk.vi {k m : Nat} {Gv : GvT} (hG : Base Gv) (hm : k + 10 ≤ m) (a0_0 : ByteArray) (a0_1 : ByteArray) (a0_2 : ByteArray) (l0_3 : List (S130)) (a0_4 : Bool) (l0_5 : List ByteArray) : Im (fun r => (.bool r, [])) (impl_PackOk.f k a0_0 a0_1 a0_2 l0_3 a0_4 l0_5) (callv Tryz.prog ti keep Gv m 114 [.ag [.str a0_0, .str a0_1, .str a0_2, .sl (l0_3.map e130), .bool a0_4, .sl (l0_5.map VV.str)]]) := by
  obtain ⟨m, rfl⟩ : ∃ m', m = m' + 1 := ⟨m - 1, by omega⟩
  rw [show callv Tryz.prog ti keep Gv (m + 1) 114 _ = _ from callv_enter ((bq hG 114).trans rfl) Tryz.func114 (by kernel_rfl) rfl rfl]
  unfold impl_PackOk.f
  repeat' first
   | (with_reducible first | exact Im.none | refine Im.ite (fun h => ?_) (fun h => ?_) | refine Im.sbind ?_)
   | ((conv => arg 3; whnf); first
    | ((with_reducible refine Im.fin ?_); exact zr) | ((with_reducible refine Im.anyo ?_ ?_); kernel_rfl) | ((with_reducible refine Im.bite_t ?_ ?_); exact zq) | ((with_reducible refine Im.bite_f ?_ ?_); exact zq) | ((with_reducible refine Im.bite_t ?_ ?_); exact zd) | ((with_reducible refine Im.must ?_ ?_); exact zd) | ((with_reducible refine Im.bite_f ?_ ?_); exact zd) | (with_reducible refine Im.byl ?_) | ((with_reducible refine Im.vget ByteArray.empty ?_ ?_ ?_); exact zd; exact zd) | ((with_reducible refine Im.vget z130 ?_ ?_ ?_); exact zd; exact zd) | ((with_reducible refine Im.vget z47 ?_ ?_ ?_); exact zd; exact zd) | ((with_reducible refine Im.vget z39 ?_ ?_ ?_); exact zd; exact zd) | ((with_reducible refine Im.vget z67 ?_ ?_ ?_); exact zd; exact zd) | ((with_reducible refine Im.vget z185 ?_ ?_ ?_); exact zd; exact zd) | ((with_reducible refine Im.vget z139 ?_ ?_ ?_); exact zd; exact zd) | ((with_reducible refine Im.vget (0 : Int) ?_ ?_ ?_); exact zd; exact zd) | ((with_reducible refine Im.vget false ?_ ?_ ?_); exact zd; exact zd) | ((with_reducible refine Im.call (impl_Exact.vi hG ?_ _) ?_ (fun r hr => ?_)); omega; exact zr) | ((with_reducible refine Im.call (impl_NameOk.vi hG ?_ _) ?_ (fun r hr => ?_)); omega; exact zr) | ((with_reducible refine Im.call (impl_PlainOk.vi hG ?_ _) ?_ (fun r hr => ?_)); omega; exact zr) | ((with_reducible refine Im.call (impl_areSums.vi hG ?_ _) ?_ (fun r hr => ?_)); omega; exact zr)
    | exact zm | exact zx | fail)
theorem impl_GraphOk.vi {k m : Nat} {Gv : GvT} (hG : Base Gv) (hm : k + 11 ≤ m) (l0_0 : List ByteArray) (l0_1 : List (S47)) : Im (fun r => (.bool r, [])) (impl_GraphOk.f k l0_0 l0_1) (callv Tryz.prog ti keep Gv m 64 [.ag [.sl (l0_0.map VV.str), .sl (l0_1.map e47)]]) := by
  obtain ⟨m, rfl⟩ : ∃ m', m = m' + 1 := ⟨m - 1, by omega⟩
  rw [show callv Tryz.prog ti keep Gv (m + 1) 64 _ = _ from callv_enter ((bq hG 64).trans rfl) Tryz.func64 (by kernel_rfl) rfl rfl]
  unfold impl_GraphOk.f
  repeat' first
   | (with_reducible first | exact Im.none | refine Im.ite (fun h => ?_) (fun h => ?_) | refine Im.sbind ?_)
   | ((conv => arg 3; whnf); first
    | ((with_reducible refine Im.fin ?_); exact zr) | ((with_reducible refine Im.anyo ?_ ?_); kernel_rfl) | ((with_reducible refine Im.bite_t ?_ ?_); exact zq) | ((with_reducible refine Im.bite_f ?_ ?_); exact zq) | ((with_reducible refine Im.bite_t ?_ ?_); exact zd) | ((with_reducible refine Im.must ?_ ?_); exact zd) | ((with_reducible refine Im.bite_f ?_ ?_); exact zd) | (with_reducible refine Im.byl ?_) | ((with_reducible refine Im.vget ByteArray.empty ?_ ?_ ?_); exact zd; exact zd) | ((with_reducible refine Im.vget z130 ?_ ?_ ?_); exact zd; exact zd) | ((with_reducible refine Im.vget z47 ?_ ?_ ?_); exact zd; exact zd) | ((with_reducible refine Im.vget z39 ?_ ?_ ?_); exact zd; exact zd) | ((with_reducible refine Im.vget z67 ?_ ?_ ?_); exact zd; exact zd) | ((with_reducible refine Im.vget z185 ?_ ?_ ?_); exact zd; exact zd) | ((with_reducible refine Im.vget z139 ?_ ?_ ?_); exact zd; exact zd) | ((with_reducible refine Im.vget (0 : Int) ?_ ?_ ?_); exact zd; exact zd) | ((with_reducible refine Im.vget false ?_ ?_ ?_); exact zd; exact zd) | ((with_reducible refine Im.call (impl_KeyOf.vi hG ?_ _ _ _ _ _ _) ?_ (fun r hr => ?_)); omega; exact zr) | ((with_reducible refine Im.call (impl_PackOk.vi hG ?_ _ _ _ _ _ _) ?_ (fun r hr => ?_)); omega; exact zr) | ((with_reducible refine Im.call (impl_areKeys.vi hG ?_ _ _ _) ?_ (fun r hr => ?_)); omega; exact zr) | ((with_reducible refine ih1 _ ⟨_, _, _, _, _⟩ _ ?_ ?_); exact zo; exact zr) | ((with_reducible refine Im.loop (S := fun s : List (S47) × Int × Int × List ByteArray × List (S47) => .un :: .bx [.sl (s.2.2.2.1.map VV.str), .sl (s.2.2.2.2.map e47)] :: .un :: .un :: .un :: .un :: .sl (s.1.map e47) :: .int s.2.1 :: .int s.2.2.1 :: u41) (L := fun k s => impl_GraphOk.l0 k s.1 s.2.1 s.2.2.1 s.2.2.2.1 s.2.2.2.2) _ ?_ ?_ _ _ ⟨_, _, _, _, _⟩ _ (Nat.le_refl _) zo ?_); (next => intro s; rfl); rotate_left; exact zr; intro k1 M1 ⟨x6, x7, x8, x211000, x211001⟩ hk1 hM1 ih1; conv => arg 2; simp only [impl_GraphOk.l0])
    | exact zm | exact zx | fail)
end Go.Proofs.YtieohddolkeegaaGreatDoor.VI

end
section
namespace Go.Proofs.YtieohddolkeegaaGreatDoor.VI
open Go Go.RowKit Go.Proofs.YtieohddolkeegaaGreatDoor.G Go.Proofs.YtieohddolkeegaaGreatDoorW.PrintWords
set_option linter.unusedVariables false
set_option linter.unusedSimpArgs false
theorem kv130 : KV k130 (fun x => (e130 x).cells) := kv_iso (kv_pair kv_string kv_string) (fun _ => rfl)
theorem kv47 : KV k47 (fun x => (e47 x).cells) := kv_iso (kv_pair kv_string (kv_pair kv_string (kv_pair kv_string (kv_pair (kv_slice (d := k130) (enc := e130) kv130) (kv_pair kv_bool (kv_slice (d := Kd.string) (enc := VV.str) kv_string)))))) (fun _ => rfl)
theorem kv185 : KV k185 (fun x => (e185 x).cells) := kv_iso (kv_pair kv_string kv_string) (fun _ => rfl)
theorem kv139 : KV k139 (fun x => (e139 x).cells) := kv_iso (kv_pair kv_string (kv_pair kv_string (kv_pair kv_string (kv_pair (kv_slice (d := k185) (enc := e185) kv185) (kv_pair kv_bool (kv_slice (d := Kd.string) (enc := VV.str) kv_string)))))) (fun _ => rfl)
end Go.Proofs.YtieohddolkeegaaGreatDoor.VI

end
section
namespace Go.Proofs.YtieohddolkeegaaGreatDoor.VI
open Go Go.RowKit Go.Proofs.YtieohddolkeegaaGreatDoor.G Go.Proofs.YtieohddolkeegaaGreatDoorW.PrintWords
set_option maxRecDepth 100000
set_option linter.unusedVariables false
set_option linter.unusedSimpArgs false
theorem unS_inv : ∀ (q : List VV) (l : List ByteArray), unS q = some l → q = l.map VV.str
  | [], l, h => by cases h; rfl
  | v :: r, l, h => by
    cases v with
    | s x =>
      cases x with
      | string b =>
        obtain ⟨l', h1, h2⟩ := obind_some h
        cases h2
        rw [unS_inv r l' h1]
        rfl
      | _ => cases h
    | _ => cases h
theorem strings_Join.giv {W : World} (hE : Glob FactE W) (hM : Glob FactM W) (hT : Glob FactT W) : ∀ vs r, strings_Join.gv vs = some r → CallOk1 Tryz.prog W.heap.size (fun w => Below W.heap.size W w) 44 vs r := by
  intro vs r h
  unfold strings_Join.gv at h
  split at h
  case h_2 => cases h
  rename_i q0 a1
  obtain ⟨l0, hq0, h2⟩ := obind_some h
  obtain rfl := unS_inv _ _ hq0
  obtain ⟨q, hq, rfl⟩ := Option.map_eq_some_iff.1 h2
  refine giv_ok ⟨_, Tryz.func44, by kernel_rfl, by kernel_rfl⟩ rfl fun w ms pd hw hd => ?_
  obtain ⟨m0, ms0, rfl, h0, hd⟩ := drs_cons hd
  obtain ⟨m1, ms1, rfl, h1, hd⟩ := drs_cons hd
  obtain rfl := drs_nil hd
  obtain ⟨A0, c0, rfl, hc0, hr0⟩ := c_of_dr (mk := Value.string) (h1 := fun _ => rfl) h0
  obtain rfl := dr_s h1
  exact (strings_Join.calls (l0 := l0) (a1 := a1) (r := q) (w := w) (h := hq) (A0 := A0) (c0 := c0) (hr0 := hr0) (hc0 := hc0)).mono fun e w' he => ⟨_, he.1, (he.2), resOf_s _⟩
theorem strings_Split.giv {W : World} (hE : Glob FactE W) (hM : Glob FactM W) (hT : Glob FactT W) : ∀ vs r, strings_Split.gv vs = some r → CallOk1 Tryz.prog W.heap.size (fun w => Below W.heap.size W w) 47 vs r := by
  intro vs r h
  unfold strings_Split.gv at h
  split at h
  case h_2 => cases h
  rename_i a0 a1
  obtain ⟨q, hq, rfl⟩ := Option.map_eq_some_iff.1 h
  refine giv_ok ⟨_, Tryz.func47, by kernel_rfl, by kernel_rfl⟩ rfl fun w ms pd hw hd => ?_
  obtain ⟨m0, ms0, rfl, h0, hd⟩ := drs_cons hd
  obtain ⟨m1, ms1, rfl, h1, hd⟩ := drs_cons hd
  obtain rfl := drs_nil hd
  obtain rfl := dr_s h0
  obtain rfl := dr_s h1
  refine (strings_Split.calls (a0 := a0) (a1 := a1) (r := q) (w := w) (h := hq) (hGM := Glob.below hM hw)).mono fun e w' he => ?_
  obtain ⟨v0, rfl, hR, hb⟩ := he
  refine ⟨v0, rfl, hb, resOf_ow (mk := Value.string) (fun _ => rfl) ?_ (Kd.own_of_R hR)⟩
  exact (Kd.R_reads hR).elim fun _ ⟨_, _, _, hC⟩ => hC.2.1
theorem strings_HasPrefix.giv {W : World} (hE : Glob FactE W) (hM : Glob FactM W) (hT : Glob FactT W) : ∀ vs r, strings_HasPrefix.gv vs = some r → CallOk1 Tryz.prog W.heap.size (fun w => Below W.heap.size W w) 49 vs r := by
  intro vs r h
  unfold strings_HasPrefix.gv at h
  split at h
  case h_2 => cases h
  rename_i a0 a1
  obtain ⟨q, hq, rfl⟩ := Option.map_eq_some_iff.1 h
  refine giv_ok ⟨_, Tryz.func49, by kernel_rfl, by kernel_rfl⟩ rfl fun w ms pd hw hd => ?_
  obtain ⟨m0, ms0, rfl, h0, hd⟩ := drs_cons hd
  obtain ⟨m1, ms1, rfl, h1, hd⟩ := drs_cons hd
  obtain rfl := drs_nil hd
  obtain rfl := dr_s h0
  obtain rfl := dr_s h1
  exact (strings_HasPrefix.calls (a0 := a0) (a1 := a1) (r := q) (w := w) (h := hq)).mono fun e w' he => ⟨_, he.1, (Drawn0.below he.2), resOf_s _⟩
theorem slices_Clone_string_string.giv {W : World} (hE : Glob FactE W) (hM : Glob FactM W) (hT : Glob FactT W) : ∀ vs r, slices_Clone_string_string.gv vs = some r → CallOk1 Tryz.prog W.heap.size (fun w => Below W.heap.size W w) 75 vs r := by
  intro vs r h
  unfold slices_Clone_string_string.gv at h
  split at h
  case h_2 => cases h
  rename_i q0
  obtain ⟨l0, hq0, h2⟩ := obind_some h
  obtain rfl := unS_inv _ _ hq0
  obtain ⟨q, hq, rfl⟩ := Option.map_eq_some_iff.1 h2
  refine giv_ok ⟨_, Tryz.func75, by kernel_rfl, by kernel_rfl⟩ rfl fun w ms pd hw hd => ?_
  obtain ⟨m0, ms0, rfl, h0, hd⟩ := drs_cons hd
  obtain rfl := drs_nil hd
  obtain ⟨A0, c0, rfl, hc0, hr0⟩ := c_of_dr (mk := Value.string) (h1 := fun _ => rfl) h0
  refine (slices_Clone_string_string.calls (l0 := l0) (r := q) (w := w) (h := hq) (A0 := A0) (c0 := c0) (hr0 := hr0) (hc0 := hc0)).mono fun e w' he => ?_
  obtain ⟨v0, rfl, hR, hb⟩ := he
  refine ⟨v0, rfl, hb, resOf_ow (mk := Value.string) (fun _ => rfl) ?_ (Kd.own_of_R hR)⟩
  exact (Kd.R_reads hR).elim fun _ ⟨_, _, _, hC⟩ => hC.2.1
theorem strings_Cut.giv {W : World} (hE : Glob FactE W) (hM : Glob FactM W) (hT : Glob FactT W) : ∀ vs r, strings_Cut.gv vs = some r → CallOk1 Tryz.prog W.heap.size (fun w => Below W.heap.size W w) 94 vs r := by
  intro vs r h
  unfold strings_Cut.gv at h
  split at h
  case h_2 => cases h
  rename_i a0 a1
  obtain ⟨q, hq, rfl⟩ := Option.map_eq_some_iff.1 h
  refine giv_ok ⟨_, Tryz.func94, by kernel_rfl, by kernel_rfl⟩ rfl fun w ms pd hw hd => ?_
  obtain ⟨m0, ms0, rfl, h0, hd⟩ := drs_cons hd
  obtain ⟨m1, ms1, rfl, h1, hd⟩ := drs_cons hd
  obtain rfl := drs_nil hd
  obtain rfl := dr_s h0
  obtain rfl := dr_s h1
  exact (strings_Cut.calls (a0 := a0) (a1 := a1) (r1 := q.1) (r2 := q.2.1) (r3 := q.2.2) (w := w) (h := hq) (hGM := Glob.below hM hw)).mono fun e w' he => ⟨_, he.1, (Drawn0.below he.2), resOf_tu [.string q.1, .string q.2.1, .bool q.2.2]⟩
theorem impl_ReadDec.giv {W : World} (hE : Glob FactE W) (hM : Glob FactM W) (hT : Glob FactT W) : ∀ vs r, impl_ReadDec.gv vs = some r → CallOk1 Tryz.prog W.heap.size (fun w => Below W.heap.size W w) 104 vs r := by
  intro vs r h
  unfold impl_ReadDec.gv at h
  split at h
  case h_2 => cases h
  rename_i a0
  obtain ⟨q, hq, rfl⟩ := Option.map_eq_some_iff.1 h
  refine giv_ok ⟨_, Tryz.func104, by kernel_rfl, by kernel_rfl⟩ rfl fun w ms pd hw hd => ?_
  obtain ⟨m0, ms0, rfl, h0, hd⟩ := drs_cons hd
  obtain rfl := drs_nil hd
  obtain rfl := dr_s h0
  exact (impl_ReadDec.calls (a0 := a0) (r := q) (w := w) (h := hq) (hGE := Glob.below hE hw) (hGT := Glob.below hT hw)).mono fun e w' he => ⟨_, he.1, (he.2), resOf_s _⟩
theorem strconv_Itoa.giv {W : World} (hE : Glob FactE W) (hM : Glob FactM W) (hT : Glob FactT W) : ∀ vs r, strconv_Itoa.gv vs = some r → CallOk1 Tryz.prog W.heap.size (fun w => Below W.heap.size W w) 176 vs r := by
  intro vs r h
  unfold strconv_Itoa.gv at h
  split at h
  case h_2 => cases h
  rename_i a0
  obtain ⟨q, hq, rfl⟩ := Option.map_eq_some_iff.1 h
  refine giv_ok ⟨_, Tryz.func176, by kernel_rfl, by kernel_rfl⟩ rfl fun w ms pd hw hd => ?_
  obtain ⟨m0, ms0, rfl, h0, hd⟩ := drs_cons hd
  obtain rfl := drs_nil hd
  obtain rfl := dr_s h0
  exact (strconv_Itoa.calls (a0 := a0) (r := q) (w := w) (h := hq) (hGT := Glob.below hT hw)).mono fun e w' he => ⟨_, he.1, (he.2), resOf_s _⟩
theorem strings_TrimPrefix.giv {W : World} (hE : Glob FactE W) (hM : Glob FactM W) (hT : Glob FactT W) : ∀ vs r, strings_TrimPrefix.gv vs = some r → CallOk1 Tryz.prog W.heap.size (fun w => Below W.heap.size W w) 187 vs r := by
  intro vs r h
  unfold strings_TrimPrefix.gv at h
  split at h
  case h_2 => cases h
  rename_i a0 a1
  obtain ⟨q, hq, rfl⟩ := Option.map_eq_some_iff.1 h
  refine giv_ok ⟨_, Tryz.func187, by kernel_rfl, by kernel_rfl⟩ rfl fun w ms pd hw hd => ?_
  obtain ⟨m0, ms0, rfl, h0, hd⟩ := drs_cons hd
  obtain ⟨m1, ms1, rfl, h1, hd⟩ := drs_cons hd
  obtain rfl := drs_nil hd
  obtain rfl := dr_s h0
  obtain rfl := dr_s h1
  exact (strings_TrimPrefix.calls (a0 := a0) (a1 := a1) (r := q) (w := w) (h := hq)).mono fun e w' he => ⟨_, he.1, (Drawn0.below he.2), resOf_s _⟩
theorem given_ok0 {W : World} (hE : Glob FactE W) (hM : Glob FactM W) (hT : Glob FactT W) : GivenOk Tryz.prog W.heap.size (fun w => Below W.heap.size W w) Gv0 := by
  intro f g vs r hg hr
  unfold Gv0 at hg
  split at hg
  · cases hg; exact strings_Join.giv hE hM hT vs r hr
  · cases hg; exact strings_Split.giv hE hM hT vs r hr
  · cases hg; exact strings_HasPrefix.giv hE hM hT vs r hr
  · cases hg; exact slices_Clone_string_string.giv hE hM hT vs r hr
  · cases hg; exact strings_Cut.giv hE hM hT vs r hr
  · cases hg; exact impl_ReadDec.giv hE hM hT vs r hr
  · cases hg; exact strconv_Itoa.giv hE hM hT vs r hr
  · cases hg; exact strings_TrimPrefix.giv hE hM hT vs r hr
  · cases hg
end Go.Proofs.YtieohddolkeegaaGreatDoor.VI

end
section
namespace Go.Proofs.YtieohddolkeegaaGreatDoor.G
open Go Go.RowKit Go.Proofs.YtieohddolkeegaaGreatDoorW.PrintWords Go.Proofs.YtieohddolkeegaaGreatDoor.VI
set_option maxRecDepth 100000
set_option linter.unusedVariables false
set_option linter.unusedSimpArgs false
theorem laws_eqGraph.calls (k : Nat) (A0_0 : Option Addr) (c0_0 : Nat) (l0_0 : List ByteArray) (A0_1 : Option Addr) (c0_1 : Nat) (l0_1 : List (S47)) (A1_0 : Option Addr) (c1_0 : Nat) (l1_0 : List ByteArray) (A1_1 : Option Addr) (c1_1 : Nat) (l1_1 : List (S47)) (r : Bool) (w : World) (hr0_0 : Kd.C Kd.string w A0_0 l0_0.length l0_0) (hc0_0 : l0_0.length ≤ c0_0) (hr0_1 : Kd.C k47 w A0_1 l0_1.length l0_1) (hc0_1 : l0_1.length ≤ c0_1) (hr1_0 : Kd.C Kd.string w A1_0 l1_0.length l1_0) (hc1_0 : l1_0.length ≤ c1_0) (hr1_1 : Kd.C k47 w A1_1 l1_1.length l1_1) (hc1_1 : l1_1.length ≤ c1_1) (hGE : Glob FactE w) (hGM : Glob FactM w) (hGT : Glob FactT w) (h : laws_eqGraph.f k l0_0 l0_1 l1_0 l1_1 = some r) :
  Calls Tryz.prog 36 #[.agg #[.slice A0_0 l0_0.length c0_0, .slice A0_1 l0_1.length c0_1], .agg #[.slice A1_0 l1_0.length c1_0, .slice A1_1 l1_1.length c1_1]] w fun e w' => e = .returned (.bool r) ∧ Below w.heap.size w w' := by
  have gws : ∀ a b, Below w.heap.size w a → Below w.heap.size a b → Below w.heap.size w b := fun a b h1 h2 => h1.trans h2
  have hok := callv_ok (P := Tryz.prog) (NG := w.heap.size) (GW := fun a => Below w.heap.size w a) VI.hti gws (keep := keep) (Gv := Gv0) (given_ok0 hGE hGM hGT) (fun C hC hc => any_sound (by kernel_rfl) (by rw [hC]; exact VI.hti) gws hc) (k + 5)
  exact CallOk1.calls (hok 36 _ _ rfl (laws_eqGraph.vi (k := k) (m := k + 5) base0 (Nat.le_refl _) l0_0 l0_1 l1_0 l1_1 _ h)) (Below.refl _ _) (Nat.le_refl _) (.cons _ _ _ _ (.ag _ _ (.cons _ _ _ _ (dr_row (enc := VV.str) kv_string hc0_0 hr0_0) (.cons _ _ _ _ (dr_row (enc := e47) kv47 hc0_1 hr0_1) .nil)) (by intro m hm; simp only [List.mem_cons, List.not_mem_nil, or_false] at hm; rcases hm with rfl | rfl <;> rfl)) (.cons _ _ _ _ (.ag _ _ (.cons _ _ _ _ (dr_row (enc := VV.str) kv_string hc1_0 hr1_0) (.cons _ _ _ _ (dr_row (enc := e47) kv47 hc1_1 hr1_1) .nil)) (by intro m hm; simp only [List.mem_cons, List.not_mem_nil, or_false] at hm; rcases hm with rfl | rfl <;> rfl)) .nil))
theorem laws_szGraph.calls (k : Nat) (A0_0 : Option Addr) (c0_0 : Nat) (l0_0 : List ByteArray) (A0_1 : Option Addr) (c0_1 : Nat) (l0_1 : List (S139)) (a1 : Int) (r : Int) (w : World) (hr0_0 : Kd.C Kd.string w A0_0 l0_0.length l0_0) (hc0_0 : l0_0.length ≤ c0_0) (hr0_1 : Kd.C k139 w A0_1 l0_1.length l0_1) (hc0_1 : l0_1.length ≤ c0_1) (hGE : Glob FactE w) (hGM : Glob FactM w) (hGT : Glob FactT w) (h : laws_szGraph.f k l0_0 l0_1 a1 = some r) :
  Calls Tryz.prog 33 #[.agg #[.slice A0_0 l0_0.length c0_0, .slice A0_1 l0_1.length c0_1], .int .i64 a1] w fun e w' => e = .returned (.int .i64 r) ∧ Below w.heap.size w w' := by
  have gws : ∀ a b, Below w.heap.size w a → Below w.heap.size a b → Below w.heap.size w b := fun a b h1 h2 => h1.trans h2
  have hok := callv_ok (P := Tryz.prog) (NG := w.heap.size) (GW := fun a => Below w.heap.size w a) VI.hti gws (keep := keep) (Gv := Gv0) (given_ok0 hGE hGM hGT) (fun C hC hc => any_sound (by kernel_rfl) (by rw [hC]; exact VI.hti) gws hc) (k + 5)
  exact CallOk1.calls (hok 33 _ _ rfl (laws_szGraph.vi (k := k) (m := k + 5) base0 (Nat.le_refl _) l0_0 l0_1 a1 _ h)) (Below.refl _ _) (Nat.le_refl _) (.cons _ _ _ _ (.ag _ _ (.cons _ _ _ _ (dr_row (enc := VV.str) kv_string hc0_0 hr0_0) (.cons _ _ _ _ (dr_row (enc := e139) kv139 hc0_1 hr0_1) .nil)) (by intro m hm; simp only [List.mem_cons, List.not_mem_nil, or_false] at hm; rcases hm with rfl | rfl <;> rfl)) (.cons _ _ _ _ (.s _) .nil))
theorem spec_GraphOk.calls (k : Nat) (A0_0 : Option Addr) (c0_0 : Nat) (l0_0 : List ByteArray) (A0_1 : Option Addr) (c0_1 : Nat) (l0_1 : List (S47)) (r : Bool) (w : World) (hr0_0 : Kd.C Kd.string w A0_0 l0_0.length l0_0) (hc0_0 : l0_0.length ≤ c0_0) (hr0_1 : Kd.C k47 w A0_1 l0_1.length l0_1) (hc0_1 : l0_1.length ≤ c0_1) (hGE : Glob FactE w) (hGM : Glob FactM w) (hGT : Glob FactT w) (h : spec_GraphOk.f k l0_0 l0_1 = some r) :
  Calls Tryz.prog 28 #[.agg #[.slice A0_0 l0_0.length c0_0, .slice A0_1 l0_1.length c0_1]] w fun e w' => e = .returned (.bool r) ∧ Below w.heap.size w w' := by
  have gws : ∀ a b, Below w.heap.size w a → Below w.heap.size a b → Below w.heap.size w b := fun a b h1 h2 => h1.trans h2
  have hok := callv_ok (P := Tryz.prog) (NG := w.heap.size) (GW := fun a => Below w.heap.size w a) VI.hti gws (keep := keep) (Gv := Gv0) (given_ok0 hGE hGM hGT) (fun C hC hc => any_sound (by kernel_rfl) (by rw [hC]; exact VI.hti) gws hc) (k + 10)
  exact CallOk1.calls (hok 28 _ _ rfl (spec_GraphOk.vi (k := k) (m := k + 10) base0 (Nat.le_refl _) l0_0 l0_1 _ h)) (Below.refl _ _) (Nat.le_refl _) (.cons _ _ _ _ (.ag _ _ (.cons _ _ _ _ (dr_row (enc := VV.str) kv_string hc0_0 hr0_0) (.cons _ _ _ _ (dr_row (enc := e47) kv47 hc0_1 hr0_1) .nil)) (by intro m hm; simp only [List.mem_cons, List.not_mem_nil, or_false] at hm; rcases hm with rfl | rfl <;> rfl)) .nil)
end Go.Proofs.YtieohddolkeegaaGreatDoor.G

end
section
namespace Go.Proofs.YtieohddolkeegaaGreatDoor.VI
open Go Go.RowKit Go.Proofs.YtieohddolkeegaaGreatDoor.G Go.Proofs.YtieohddolkeegaaGreatDoorW.PrintWords
set_option maxRecDepth 100000
set_option maxHeartbeats 16000000
set_option linter.unusedVariables false
set_option linter.unusedSimpArgs false
attribute [local irreducible] bite obind vget
attribute [local simp] rd_T130_eq rd_T47_eq rd_T39_eq rd_T67_eq rd_T185_eq rd_T139_eq
theorem impl_Order.viT {k m : Nat} {Gv : GvT} (hG : Base Gv) (hm : k + 12 ≤ m + 1) (c : Code) (hc : Tryz.f25.body = some c) (l0_0 : List ByteArray) (l0_1 : List (S47)) : Im (fun r => [.ow 9 1 (r.1.map VV.str), .bool r.2]) (impl_Order.f k l0_0 l0_1) (bodyT ⟨ti, callv Tryz.prog ti keep Gv m, m⟩ (keep 25) Tryz.f25 c [.ag [.sl (l0_0.map VV.str), .sl (l0_1.map e47)]]) := by
  obtain rfl : _ = c := Option.some.inj hc
  unfold impl_Order.f
  repeat' first
   | (with_reducible first | exact Im.none | refine Im.ite (fun h => ?_) (fun h => ?_) | refine Im.sbind ?_)
   | ((conv => arg 3; whnf); first
    | ((with_reducible refine Im.fin ?_); exact zr) | ((with_reducible refine Im.anyo ?_ ?_); kernel_rfl) | ((with_reducible refine Im.bite_t ?_ ?_); exact zq) | ((with_reducible refine Im.bite_f ?_ ?_); exact zq) | ((with_reducible refine Im.bite_t ?_ ?_); exact zd) | ((with_reducible refine Im.must ?_ ?_); exact zd) | ((with_reducible refine Im.bite_f ?_ ?_); exact zd) | (with_reducible refine Im.byl ?_) | ((with_reducible refine Im.vget ByteArray.empty ?_ ?_ ?_); exact zd; exact zd) | ((with_reducible refine Im.vget z130 ?_ ?_ ?_); exact zd; exact zd) | ((with_reducible refine Im.vget z47 ?_ ?_ ?_); exact zd; exact zd) | ((with_reducible refine Im.vget z39 ?_ ?_ ?_); exact zd; exact zd) | ((with_reducible refine Im.vget z67 ?_ ?_ ?_); exact zd; exact zd) | ((with_reducible refine Im.vget z185 ?_ ?_ ?_); exact zd; exact zd) | ((with_reducible refine Im.vget z139 ?_ ?_ ?_); exact zd; exact zd) | ((with_reducible refine Im.vget (0 : Int) ?_ ?_ ?_); exact zd; exact zd) | ((with_reducible refine Im.vget false ?_ ?_ ?_); exact zd; exact zd) | ((with_reducible refine Im.call (impl_GraphOk.vi hG ?_ _ _) ?_ (fun r hr => ?_)); omega; exact zr) | ((with_reducible refine Im.call (impl_KeyOf.vi hG ?_ _ _ _ _ _ _) ?_ (fun r hr => ?_)); omega; exact zr) | ((with_reducible refine Im.call (impl_Pack__impl_Order_1.vi hG ?_ _ _) ?_ (fun r hr => ?_)); omega; exact zr) | ((with_reducible refine ih1 _ ⟨_, _, _, _, _⟩ _ ?_ ?_); exact zo; exact zr) | ((with_reducible refine Im.loop (S := fun s : Int × Int × List ByteArray × List (S47) × List ByteArray => .un :: .bx [.sl (s.2.2.1.map VV.str), .sl (s.2.2.2.1.map e47)] :: .un :: .un :: .bx [.ow 9 1 (s.2.2.2.2.map VV.str)] :: .un :: .un :: .un :: .un :: .un :: .un :: .un :: .int s.1 :: .int s.2.1 :: u19) (L := fun k s => impl_Order.l0 k s.1 s.2.1 s.2.2.1 s.2.2.2.1 s.2.2.2.2) _ ?_ ?_ _ _ ⟨_, _, _, _, _⟩ _ (Nat.le_refl _) zo ?_); (next => intro s; rfl); rotate_left; exact zr; intro k1 M1 ⟨x12, x13, x100000, x100001, x200000⟩ hk1 hM1 ih1; conv => arg 2; simp only [impl_Order.l0])
    | exact zm | exact zx | fail)
end Go.Proofs.YtieohddolkeegaaGreatDoor.VI

end
section
namespace Go.Proofs.YtieohddolkeegaaGreatDoor.G
open Go Go.RowKit Go.Proofs.YtieohddolkeegaaGreatDoorW.PrintWords Go.Proofs.YtieohddolkeegaaGreatDoor.VI
set_option maxRecDepth 100000
set_option linter.unusedVariables false
set_option linter.unusedSimpArgs false
theorem impl_Order.calls (k : Nat) (A0_0 : Option Addr) (c0_0 : Nat) (l0_0 : List ByteArray) (A0_1 : Option Addr) (c0_1 : Nat) (l0_1 : List (S47)) (r1 : List ByteArray) (r2 : Bool) (w : World) (hr0_0 : Kd.C Kd.string w A0_0 l0_0.length l0_0) (hc0_0 : l0_0.length ≤ c0_0) (hr0_1 : Kd.C k47 w A0_1 l0_1.length l0_1) (hc0_1 : l0_1.length ≤ c0_1) (hGE : Glob FactE w) (hGM : Glob FactM w) (hGT : Glob FactT w) (h : impl_Order.f k l0_0 l0_1 = some (r1, r2)) :
  Calls Tryz.prog 25 #[.agg #[.slice A0_0 l0_0.length c0_0, .slice A0_1 l0_1.length c0_1]] w fun e w' => ∃ v0_ : Value, e = .returned (.tuple #[v0_, .bool r2]) ∧ Kd.R Kd.string 9 w' w.heap.size (fun _ => True) v0_ r1 ∧ Below w.heap.size w w' := by
  have gws : ∀ a b, Below w.heap.size w a → Below w.heap.size a b → Below w.heap.size w b := fun a b h1 h2 => h1.trans h2
  have hok := callv_ok (P := Tryz.prog) (NG := w.heap.size) (GW := fun a => Below w.heap.size w a) VI.hti gws (keep := keep) (Gv := Gv0) (given_ok0 hGE hGM hGT) (fun C hC hc => any_sound (by kernel_rfl) (by rw [hC]; exact VI.hti) gws hc) (k + 12)
  refine (callT_ok (by kernel_rfl) VI.hti gws (C := ⟨ti, callv Tryz.prog ti keep Gv0 (k + 12), k + 12⟩) rfl hok Tryz.func25 rfl (by intro v hv cs h; subst h; simp at hv) (by decide) (impl_Order.viT (k := k) (m := k + 12) base0 (by omega) _ rfl l0_0 l0_1 _ h) (Below.refl _ _) (Nat.le_refl _) (.cons _ _ _ _ (.ag _ _ (.cons _ _ _ _ (dr_row (enc := VV.str) kv_string hc0_0 hr0_0) (.cons _ _ _ _ (dr_row (enc := e47) kv47 hc0_1 hr0_1) .nil)) (by intro m hm; simp only [List.mem_cons, List.not_mem_nil, or_false] at hm; rcases hm with rfl | rfl <;> rfl)) .nil)).mono fun e w' he => ?_
  obtain ⟨ls, pd', rfl, hres, hb⟩ := he
  obtain _ | ⟨_, v0, _, _, h0, hres⟩ := hres
  obtain _ | ⟨_, v1, _, _, h1, hres⟩ := hres
  cases hres
  obtain rfl := resR_s h1
  exact ⟨v0, rfl, resR_row h0, hb⟩
end Go.Proofs.YtieohddolkeegaaGreatDoor.G

end
section
namespace Go.Proofs.YtieohddolkeegaaGreatDoor.G
open Go.RowKit Go.Proofs.YtieohddolkeegaaGreatDoorW.PrintWords Go.Proofs.YtieohddolkeegaaGreatDoorW.PrintLast Go.Proofs.YtieohddolkeegaaGreatDoorW.PrintMore
attribute [local go_sem] max2_int min2_int max_two min_two max_three min_three max_four min_four
attribute [local go_sem high] Go.Proofs.YtieohddolkeegaaGreatDoor.G.str_gtr Go.Proofs.YtieohddolkeegaaGreatDoor.G.str_leq Go.Proofs.YtieohddolkeegaaGreatDoor.G.str_geq
set_option linter.unusedVariables false
set_option linter.unusedSimpArgs false
set_option maxHeartbeats 8000000 in
set_option maxRecDepth 100000 in
theorem spec_Order.calls (k : Nat) (A0_0 : Option Addr) (c0_0 : Nat) (l0_0 : List ByteArray) (A0_1 : Option Addr) (c0_1 : Nat) (l0_1 : List (S47)) (r1 : List ByteArray) (r2 : Bool) (w : World) (hr0_0 : Kd.C Kd.string w A0_0 l0_0.length l0_0) (hc0_0 : l0_0.length ≤ c0_0) (hr0_1 : Kd.C k47 w A0_1 l0_1.length l0_1) (hc0_1 : l0_1.length ≤ c0_1) (hGE : Glob FactE w) (hGM : Glob FactM w) (hGT : Glob FactT w) (h : spec_Order.f k l0_0 l0_1 = some (r1, r2)) :
  Calls Tryz.prog 26 #[.agg #[.slice A0_0 l0_0.length c0_0, .slice A0_1 l0_1.length c0_1]] w fun e w' => ∃ v0_ : Value, e = .returned (.tuple #[v0_, .bool r2]) ∧ Kd.R Kd.string 9 w' w.heap.size (fun _ => True) v0_ r1 ∧ Below w.heap.size w w' := by
 have hu39 := Tryz.underlying39
 have hu47 := Tryz.underlying47
 have HR0_0 := am hr0_0
 have HC0_0 := am hc0_0
 clear hr0_0 hc0_0
 have HR0_1 := am hr0_1
 have HC0_1 := am hc0_1
 clear hr0_1 hc0_1
 have HB := am (Below.refl w.heap.size w)
 have HGE := am hGE
 clear hGE
 have HGM := am hGM
 clear hGM
 have HGT := am hGT
 clear hGT
 have H : ((some (([] : List ByteArray) : List ByteArray)).bind fun y372 => ((spec_GraphOk.f k l0_0 l0_1).bind fun t375 => (if t375 = true then (spec_Order.l0 k y372 true l0_0 l0_1) else (some (y372, false))))) = some (r1, r2) := h
 clear h
 obtain ⟨y372, hy372⟩ : ∃ y_ : List ByteArray, y_ = (([] : List ByteArray)) := ⟨_, rfl⟩
 replace H : ((spec_GraphOk.f k l0_0 l0_1).bind fun t375 => (if t375 = true then (spec_Order.l0 k y372 true l0_0 l0_1) else (some (y372, false)))) = some (r1, r2) := by first | (rw [hy372]; with_reducible exact H) | (have H2_ := (Option.bind_some _ _).symm.trans H; rw [hy372]; with_reducible exact H2_) | (have H2_ := (Option.bind_some _ _).symm.trans H; with_reducible exact H2_) | with_reducible exact H | (rw [hy372]; exact H) | exact H
 have Ny372 := am hy372
 clear hy372
 replace H := Option.bind_eq_some_iff.mp H
 obtain ⟨t375, A20, H⟩ := H
 try dsimp only at H
 have A2 := am A20
 clear A20
 by_cases c3 : t375 = true
 ·subst c3
  rw [if_pos rfl] at H
  have H' := am H
  clear H
  go_enter Tryz.func26, Tryz.ntmps26
  go_wp2_with (first | ((with_reducible refine gate_dst (N := 1) rfl ?_); refine box_event ?hg (N := 1) ?hd (cs := #[.slice A0_0 l0_0.length c0_0, .slice A0_1 l0_1.length c0_1]) (t := 39) ?hr ?_; (case hd => rfl); (case hg => rfl); (case hr => exact zb13); intro gb371 hg w4 hbox hb; have BK371 := am hbox; have GW371 := am ((by rw [hg]; exact (below_size zb0) : w.heap.size ≤ gb371)); have GE371 := am ((by rw [hg]; exact (below_size zb0) : w.heap.size ≤ gb371)); replace HB := am (below_step zb0 hb); clear hb hbox hg) | ((with_reducible refine gate_dst (N := 10) rfl ?_); refine Kd.R_lit Kd.string _ 9 ?hg (N := 10) ?hd (xs := ([] : List ByteArray)) (inner := []) (ok := fun _ => True) (okp := fun _ => True) ?hr ?hp (fun _ hk => hk) trivial (Below.refl _ _) (Nat.le_refl _) zb44 ?_; (case hd => rfl); (case hg => rfl); (case hr => exact zb13); (case hp => exact (Reps.none _ _)); intro v373 w5 ho6 hb hg_ hnew_; clear hg_ hnew_; (first | rw [← Ny372.out] at ho6 | (simp only [Int.reduceToNat] at ho6; rw [← Ny372.out] at ho6)); have HO374 := am (Kd.R_lower ho6 (below_size zb1)); replace BK371 := am (blk_below (g := gb371) (o := .cells #[.slice A0_0 l0_0.length c0_0, .slice A0_1 l0_1.length c0_1] 39 (0, 0)) (zB BK371.out) hb); replace HB := am (below_step zb1 hb); clear hb ho6; have hcz7_0 : w5.cell? ⟨gb371, 0, none⟩ = some (.slice A0_0 l0_0.length c0_0) := bc BK371.out 0; have hcz7_1 : w5.cell? ⟨gb371, 1, none⟩ = some (.slice A0_1 l0_1.length c0_1) := bc BK371.out 1; have hfz7_0 := blk_frozen BK371.out 0; have hfz7_1 := blk_frozen BK371.out 1) | (go_at_call 28; (with_reducible refine (spec_GraphOk.calls k _ _ l0_0 _ _ l0_1 true _ ?side1 ?side2 ?side3 ?side4 ?side5 ?side6 ?side7 A2.out).mono ?_); (case side1 => exact zb7); (case side2 => exact HC0_0.out); (case side3 => exact zb8); (case side4 => exact HC0_1.out); (case side5 => exact Glob.below HGE.out zb1); (case side6 => exact Glob.below HGM.out zb1); (case side7 => exact Glob.below HGT.out zb1); rintro e w8 ⟨rfl, hb⟩; replace HO374 := am (Kd.R_below (zR HO374.out) hb); replace BK371 := am (blk_below (g := gb371) (o := .cells #[.slice A0_0 l0_0.length c0_0, .slice A0_1 l0_1.length c0_1] 39 (0, 0)) (zB BK371.out) hb); replace HB := am (below_step zb1 hb); (try clear hb)))
  repeat (go_quiet (first | ((with_reducible refine gate_dst (N := 1) rfl ?_); refine box_event ?hg (N := 1) ?hd (cs := #[.slice A0_0 l0_0.length c0_0, .slice A0_1 l0_1.length c0_1]) (t := 39) ?hr ?_; (case hd => rfl); (case hg => rfl); (case hr => exact zb13); intro gb371 hg w4 hbox hb; have BK371 := am hbox; have GW371 := am ((by rw [hg]; exact (below_size zb0) : w.heap.size ≤ gb371)); have GE371 := am ((by rw [hg]; exact (below_size zb0) : w.heap.size ≤ gb371)); replace HB := am (below_step zb0 hb); clear hb hbox hg) | ((with_reducible refine gate_dst (N := 10) rfl ?_); refine Kd.R_lit Kd.string _ 9 ?hg (N := 10) ?hd (xs := ([] : List ByteArray)) (inner := []) (ok := fun _ => True) (okp := fun _ => True) ?hr ?hp (fun _ hk => hk) trivial (Below.refl _ _) (Nat.le_refl _) zb44 ?_; (case hd => rfl); (case hg => rfl); (case hr => exact zb13); (case hp => exact (Reps.none _ _)); intro v373 w5 ho6 hb hg_ hnew_; clear hg_ hnew_; (first | rw [← Ny372.out] at ho6 | (simp only [Int.reduceToNat] at ho6; rw [← Ny372.out] at ho6)); have HO374 := am (Kd.R_lower ho6 (below_size zb1)); replace BK371 := am (blk_below (g := gb371) (o := .cells #[.slice A0_0 l0_0.length c0_0, .slice A0_1 l0_1.length c0_1] 39 (0, 0)) (zB BK371.out) hb); replace HB := am (below_step zb1 hb); clear hb ho6; have hcz7_0 : w5.cell? ⟨gb371, 0, none⟩ = some (.slice A0_0 l0_0.length c0_0) := bc BK371.out 0; have hcz7_1 : w5.cell? ⟨gb371, 1, none⟩ = some (.slice A0_1 l0_1.length c0_1) := bc BK371.out 1; have hfz7_0 := blk_frozen BK371.out 0; have hfz7_1 := blk_frozen BK371.out 1) | (go_at_call 28; (with_reducible refine (spec_GraphOk.calls k _ _ l0_0 _ _ l0_1 true _ ?side1 ?side2 ?side3 ?side4 ?side5 ?side6 ?side7 A2.out).mono ?_); (case side1 => exact zb7); (case side2 => exact HC0_0.out); (case side3 => exact zb8); (case side4 => exact HC0_1.out); (case side5 => exact Glob.below HGE.out zb1); (case side6 => exact Glob.below HGM.out zb1); (case side7 => exact Glob.below HGT.out zb1); rintro e w8 ⟨rfl, hb⟩; replace HO374 := am (Kd.R_below (zR HO374.out) hb); replace BK371 := am (blk_below (g := gb371) (o := .cells #[.slice A0_0 l0_0.length c0_0, .slice A0_1 l0_1.length c0_1] 39 (0, 0)) (zB BK371.out) hb); replace HB := am (below_step zb1 hb); (try clear hb))); try go_wp2_with (first | ((with_reducible refine gate_dst (N := 1) rfl ?_); refine box_event ?hg (N := 1) ?hd (cs := #[.slice A0_0 l0_0.length c0_0, .slice A0_1 l0_1.length c0_1]) (t := 39) ?hr ?_; (case hd => rfl); (case hg => rfl); (case hr => exact zb13); intro gb371 hg w4 hbox hb; have BK371 := am hbox; have GW371 := am ((by rw [hg]; exact (below_size zb0) : w.heap.size ≤ gb371)); have GE371 := am ((by rw [hg]; exact (below_size zb0) : w.heap.size ≤ gb371)); replace HB := am (below_step zb0 hb); clear hb hbox hg) | ((with_reducible refine gate_dst (N := 10) rfl ?_); refine Kd.R_lit Kd.string _ 9 ?hg (N := 10) ?hd (xs := ([] : List ByteArray)) (inner := []) (ok := fun _ => True) (okp := fun _ => True) ?hr ?hp (fun _ hk => hk) trivial (Below.refl _ _) (Nat.le_refl _) zb44 ?_; (case hd => rfl); (case hg => rfl); (case hr => exact zb13); (case hp => exact (Reps.none _ _)); intro v373 w5 ho6 hb hg_ hnew_; clear hg_ hnew_; (first | rw [← Ny372.out] at ho6 | (simp only [Int.reduceToNat] at ho6; rw [← Ny372.out] at ho6)); have HO374 := am (Kd.R_lower ho6 (below_size zb1)); replace BK371 := am (blk_below (g := gb371) (o := .cells #[.slice A0_0 l0_0.length c0_0, .slice A0_1 l0_1.length c0_1] 39 (0, 0)) (zB BK371.out) hb); replace HB := am (below_step zb1 hb); clear hb ho6; have hcz7_0 : w5.cell? ⟨gb371, 0, none⟩ = some (.slice A0_0 l0_0.length c0_0) := bc BK371.out 0; have hcz7_1 : w5.cell? ⟨gb371, 1, none⟩ = some (.slice A0_1 l0_1.length c0_1) := bc BK371.out 1; have hfz7_0 := blk_frozen BK371.out 0; have hfz7_1 := blk_frozen BK371.out 1) | (go_at_call 28; (with_reducible refine (spec_GraphOk.calls k _ _ l0_0 _ _ l0_1 true _ ?side1 ?side2 ?side3 ?side4 ?side5 ?side6 ?side7 A2.out).mono ?_); (case side1 => exact zb7); (case side2 => exact HC0_0.out); (case side3 => exact zb8); (case side4 => exact HC0_1.out); (case side5 => exact Glob.below HGE.out zb1); (case side6 => exact Glob.below HGM.out zb1); (case side7 => exact Glob.below HGT.out zb1); rintro e w8 ⟨rfl, hb⟩; replace HO374 := am (Kd.R_below (zR HO374.out) hb); replace BK371 := am (blk_below (g := gb371) (o := .cells #[.slice A0_0 l0_0.length c0_0, .slice A0_1 l0_1.length c0_1] 39 (0, 0)) (zB BK371.out) hb); replace HB := am (below_step zb1 hb); (try clear hb))))
  go_loopg [4, 5] k (fun kq v4 v5 w' => ∃ (x4_1 : List ByteArray) (x5_1 : Bool), v5 = .bool x5_1 ∧ Aside0 (spec_Order.l0 kq x4_1 x5_1 l0_0 l0_1 = some (r1, r2)) ∧ Aside0 (kq ≤ k) ∧ Aside0 (Kd.R Kd.string 9 w' w.heap.size (fun _ => True) v4 x4_1) ∧ Aside0 (w'.heap[gb371]? = some (.cells #[(.slice A0_0 l0_0.length c0_0), (.slice A0_1 l0_1.length c0_1)] 39 (0, 0))) ∧ Aside0 (Below w.heap.size w w'))
  case atStart => exact ⟨(y372), (true), zb3, H', ⟨Nat.le_refl _⟩, ⟨(zR HO374.out)⟩, ⟨(zB BK371.out)⟩, ⟨zb1⟩⟩
  case round =>
   clear H'
   try clear c2
   try clear p2
   try clear c3
   try clear hcz7_0
   try clear hcz7_1
   try clear hfz7_0
   try clear hfz7_1
   obtain ⟨x4_1, x5_1, rfl, HA, HK1, HO_4, BK371, HB⟩ := hrel
   cases gk with
   | zero => exact absurd HA.out (by simp [spec_Order.l0])
   | succ k1 =>
    have H := HA.out
    clear HA
    simp only [spec_Order.l0] at H
    by_cases c9 : x5_1 = true
    ·subst c9
     rw [if_pos rfl] at H
     have H' := am H
     clear H
     go_wp2
     repeat (go_quiet (fail); try go_wp2)
     go_loopg [4, 5, 6] k1 (fun kq v4 v5 v6 w' => ∃ (x4_2 : List ByteArray) (x5_2 : Bool) (x6_2 : Int), v5 = .bool x5_2 ∧ v6 = .int .i64 x6_2 ∧ Aside0 (spec_Order.l1 kq x4_2 x5_2 x6_2 l0_0 l0_1 = some (r1, r2)) ∧ Aside0 (kq ≤ k1) ∧ Aside0 (Kd.R Kd.string 9 w' w.heap.size (fun _ => True) v4 x4_2) ∧ Aside0 (w'.heap[gb371]? = some (.cells #[(.slice A0_0 l0_0.length c0_0), (.slice A0_1 l0_1.length c0_1)] 39 (0, 0))) ∧ Aside0 (Below w.heap.size w w'))
     case atStart => exact ⟨(x4_1), (false), (0), zb3, zb3, H', ⟨Nat.le_refl _⟩, ⟨(zR HO_4.out)⟩, ⟨(zB BK371.out)⟩, ⟨zb1⟩⟩
     case round =>
      clear H'
      try clear c2
      try clear p2
      try clear c3
      try clear c9
      try clear hcz7_0
      try clear hcz7_1
      try clear hfz7_0
      try clear hfz7_1
      try clear p2
      obtain ⟨x4_2, x5_2, x6_2, rfl, rfl, HA, HK2, HO_4, BK371, HB⟩ := hrel
      cases gk with
      | zero => exact absurd HA.out (by simp [spec_Order.l1])
      | succ k2 =>
       have H := HA.out
       clear HA
       simp only [spec_Order.l1] at H
       have HC10 := am H
       clear H
       go_upto_region 8 with (fail)
       repeat (go_quiet (fail); go_upto_region 8 with (fail))
       go_cut [24] (fun v24 wc => ∃ (kq : Nat) (x24_9 : Bool), v24 = .bool x24_9 ∧ Aside0 (spec_Order.j2 kq x4_2 x5_2 x6_2 x24_9 l0_0 l0_1 = some (r1, r2)) ∧ Aside0 (kq ≤ k2) ∧ Aside0 (Kd.R Kd.string 9 wc w.heap.size (fun _ => True) u4 x4_2) ∧ Aside0 (wc.heap[gb371]? = some (.cells #[(.slice A0_0 l0_0.length c0_0), (.slice A0_1 l0_1.length c0_1)] 39 (0, 0))) ∧ Aside0 (Below w.heap.size w wc))
       case first =>
        have H := HC10.out
        clear HC10
        by_cases c11 : x6_2 < (l0_1.length : Int)
        ·rw [if_pos c11] at H
         have c11b0 : decide (x6_2 < (l0_1.length : Int)) = true := decide_eq_true c11
         clear c11
         (first | rw [c11b0] | (simp only [i64_w, i32_w]; rw [c11b0]) | skip)
         have H' := am H
         clear H
         have hcz12_0 : wr.cell? ⟨gb371, 0, none⟩ = some (.slice A0_0 l0_0.length c0_0) := bc BK371.out 0
         have hcz12_1 : wr.cell? ⟨gb371, 1, none⟩ = some (.slice A0_1 l0_1.length c0_1) := bc BK371.out 1
         have hfz12_0 := blk_frozen BK371.out 0
         have hfz12_1 := blk_frozen BK371.out 1
         go_wp2
         repeat (go_quiet (fail); try go_wp2)
         go_meet
         case rel => exact ⟨_, (!x5_2), zb3, H', ⟨by have := HK1.out; have := HK2.out; first | omega | exact Nat.le_refl _⟩, ⟨(zR HO_4.out)⟩, ⟨(zB BK371.out)⟩, ⟨zb1⟩⟩
        ·rw [if_neg c11] at H
         have c11b0 : decide (x6_2 < (l0_1.length : Int)) = false := decide_eq_false c11
         clear c11
         (first | rw [c11b0] | (simp only [i64_w, i32_w]; rw [c11b0]) | skip)
         have H' := am H
         clear H
         have hcz13_0 : wr.cell? ⟨gb371, 0, none⟩ = some (.slice A0_0 l0_0.length c0_0) := bc BK371.out 0
         have hcz13_1 : wr.cell? ⟨gb371, 1, none⟩ = some (.slice A0_1 l0_1.length c0_1) := bc BK371.out 1
         have hfz13_0 := blk_frozen BK371.out 0
         have hfz13_1 := blk_frozen BK371.out 1
         go_wp2
         repeat (go_quiet (fail); try go_wp2)
         go_meet
         case rel => exact ⟨_, (false), zb3, H', ⟨by have := HK1.out; have := HK2.out; first | omega | exact Nat.le_refl _⟩, ⟨(zR HO_4.out)⟩, ⟨(zB BK371.out)⟩, ⟨zb1⟩⟩
       case rest =>
        clear HC10
        try clear c1
        try clear c2
        try clear p2
        try clear c3
        try clear c9
        try clear c11
        try clear c11b0
        try clear hcz12_0
        try clear hcz12_1
        try clear hcz13_0
        try clear hcz13_1
        try clear hcz7_0
        try clear hcz7_1
        try clear hfz12_0
        try clear hfz12_1
        try clear hfz13_0
        try clear hfz13_1
        try clear hfz7_0
        try clear hfz7_1
        try clear p2
        obtain ⟨kq, x24_9, rfl, HA, HJ9, HO_4, BK371, HB⟩ := hcut
        cases kq with
        | zero => exact absurd HA.out (by simp [spec_Order.j2])
        | succ kj9 =>
         have H := HA.out
         clear HA
         simp only [spec_Order.j2] at H
         by_cases c14 : x24_9 = true
         ·subst c14
          rw [if_pos rfl] at H
          by_cases c15 : 0 ≤ x6_2
          ·rw [if_pos c15] at H
           have c15b0 : decide (0 ≤ x6_2) = true := decide_eq_true c15
           clear c15
           by_cases c16 : x6_2 < (l0_1.length : Int)
           ·rw [if_pos c16] at H
            have c16b0 : decide (x6_2 < (l0_1.length : Int)) = true := decide_eq_true c16
            clear c16
            replace H := Option.bind_eq_some_iff.mp H
            obtain ⟨t377, A170, H⟩ := H
            try dsimp only at H
            have A17 := am A170
            clear A170
            replace H := Option.bind_eq_some_iff.mp H
            obtain ⟨t378, A180, H⟩ := H
            try dsimp only at H
            have A18 := am A180
            clear A180
            have H' := am H
            clear H
            have hcz19_0 : wc.cell? ⟨gb371, 0, none⟩ = some (.slice A0_0 l0_0.length c0_0) := bc BK371.out 0
            have hcz19_1 : wc.cell? ⟨gb371, 1, none⟩ = some (.slice A0_1 l0_1.length c0_1) := bc BK371.out 1
            have hfz19_0 := blk_frozen BK371.out 0
            have hfz19_1 := blk_frozen BK371.out 1
            have p376 : 0 ≤ (x6_2 : Int) := of_decide_eq_true zb6
            have q376 : x6_2 < (l0_1.length : Int) := of_decide_eq_true zb6
            obtain ⟨ad376, A376_3, c376_3, A376_5, c376_5, e376, hx376_0, hx376_1, hx376_2, hx376_3, hx376_4, hx376_5, hl376_3, hi376_3, hl376_5, hi376_5⟩ := at_T47 HR0_1.out x6_2 p376 q376
            cases e376
            replace hx376_0 := (HB.out.cell (World.block_lt_of_cell? w _ hx376_0)).trans hx376_0
            replace hx376_1 := (HB.out.cell (World.block_lt_of_cell? w _ hx376_1)).trans hx376_1
            replace hx376_2 := (HB.out.cell (World.block_lt_of_cell? w _ hx376_2)).trans hx376_2
            replace hx376_3 := (HB.out.cell (World.block_lt_of_cell? w _ hx376_3)).trans hx376_3
            replace hx376_4 := (HB.out.cell (World.block_lt_of_cell? w _ hx376_4)).trans hx376_4
            replace hx376_5 := (HB.out.cell (World.block_lt_of_cell? w _ hx376_5)).trans hx376_5
            have HR376_3 := am hi376_3
            have HC376_3 := am hl376_3
            clear hi376_3 hl376_3
            have HR376_5 := am hi376_5
            have HC376_5 := am hl376_5
            clear hi376_5 hl376_5
            replace p376 := eq_true p376
            replace q376 := eq_true q376
            go_wp2_with (first | (go_at_call 70; (with_reducible refine (spec_KeyOf.calls ((rd_T47 l0_1 x6_2).f0) ((rd_T47 l0_1 x6_2).f1) ((rd_T47 l0_1 x6_2).f2) _ _ ((rd_T47 l0_1 x6_2).f3) ((rd_T47 l0_1 x6_2).f4) _ _ ((rd_T47 l0_1 x6_2).f5) t377 _ ?side1 ?side2 ?side3 ?side4 A17.out).mono ?_); (case side1 => exact zb24); (case side2 => exact HC376_3.out); (case side3 => exact zb23); (case side4 => exact HC376_5.out); rintro e w20 ⟨rfl, hb⟩; replace HO_4 := am (Kd.R_below (zR HO_4.out) hb); replace BK371 := am (blk_below (g := gb371) (o := .cells #[.slice A0_0 l0_0.length c0_0, .slice (some ad376) l0_1.length c0_1] 39 (0, 0)) (zB BK371.out) hb); replace HB := am (below_step zb1 hb); (try clear hb); obtain ⟨Ao21, co21, eo21⟩ := Kd.R_slice HO_4.out; subst eo21) | (go_at_call 71; (with_reducible refine (spec_l04Has.calls kj9 _ _ x4_2 t377 t378 _ ?side1 ?side2 A18.out).mono ?_); (case side1 => exact zb9); (case side2 => exact (Kd.R_reads' HO_4.out).2.1); rintro e w' ⟨rfl, ⟨nd, rfl⟩⟩; (try exact zb15)))
            repeat (go_quiet (first | (go_at_call 70; (with_reducible refine (spec_KeyOf.calls ((rd_T47 l0_1 x6_2).f0) ((rd_T47 l0_1 x6_2).f1) ((rd_T47 l0_1 x6_2).f2) _ _ ((rd_T47 l0_1 x6_2).f3) ((rd_T47 l0_1 x6_2).f4) _ _ ((rd_T47 l0_1 x6_2).f5) t377 _ ?side1 ?side2 ?side3 ?side4 A17.out).mono ?_); (case side1 => exact zb24); (case side2 => exact HC376_3.out); (case side3 => exact zb23); (case side4 => exact HC376_5.out); rintro e w20 ⟨rfl, hb⟩; replace HO_4 := am (Kd.R_below (zR HO_4.out) hb); replace BK371 := am (blk_below (g := gb371) (o := .cells #[.slice A0_0 l0_0.length c0_0, .slice (some ad376) l0_1.length c0_1] 39 (0, 0)) (zB BK371.out) hb); replace HB := am (below_step zb1 hb); (try clear hb); obtain ⟨Ao21, co21, eo21⟩ := Kd.R_slice HO_4.out; subst eo21) | (go_at_call 71; (with_reducible refine (spec_l04Has.calls kj9 _ _ x4_2 t377 t378 _ ?side1 ?side2 A18.out).mono ?_); (case side1 => exact zb9); (case side2 => exact (Kd.R_reads' HO_4.out).2.1); rintro e w' ⟨rfl, ⟨nd, rfl⟩⟩; (try exact zb15))); try go_wp2_with (first | (go_at_call 70; (with_reducible refine (spec_KeyOf.calls ((rd_T47 l0_1 x6_2).f0) ((rd_T47 l0_1 x6_2).f1) ((rd_T47 l0_1 x6_2).f2) _ _ ((rd_T47 l0_1 x6_2).f3) ((rd_T47 l0_1 x6_2).f4) _ _ ((rd_T47 l0_1 x6_2).f5) t377 _ ?side1 ?side2 ?side3 ?side4 A17.out).mono ?_); (case side1 => exact zb24); (case side2 => exact HC376_3.out); (case side3 => exact zb23); (case side4 => exact HC376_5.out); rintro e w20 ⟨rfl, hb⟩; replace HO_4 := am (Kd.R_below (zR HO_4.out) hb); replace BK371 := am (blk_below (g := gb371) (o := .cells #[.slice A0_0 l0_0.length c0_0, .slice (some ad376) l0_1.length c0_1] 39 (0, 0)) (zB BK371.out) hb); replace HB := am (below_step zb1 hb); (try clear hb); obtain ⟨Ao21, co21, eo21⟩ := Kd.R_slice HO_4.out; subst eo21) | (go_at_call 71; (with_reducible refine (spec_l04Has.calls kj9 _ _ x4_2 t377 t378 _ ?side1 ?side2 A18.out).mono ?_); (case side1 => exact zb9); (case side2 => exact (Kd.R_reads' HO_4.out).2.1); rintro e w' ⟨rfl, ⟨nd, rfl⟩⟩; (try exact zb15))))
            go_loopg [8, 9] kj9 (fun kq v8 v9 w' => ∃ (x8_4 : Bool) (x9_4 : Int), v8 = .bool x8_4 ∧ v9 = .int .i64 x9_4 ∧ Aside0 (spec_Order.l2 kq x4_2 x5_2 x6_2 t377 x8_4 x9_4 l0_0 l0_1 = some (r1, r2)) ∧ Aside0 (kq ≤ kj9) ∧ Aside0 (Kd.R Kd.string 9 w' w.heap.size (fun _ => True) (.slice Ao21 x4_2.length co21) x4_2) ∧ Aside0 (w'.heap[gb371]? = some (.cells #[(.slice A0_0 l0_0.length c0_0), (.slice (some ad376) l0_1.length c0_1)] 39 (0, 0))) ∧ Aside0 (Below w.heap.size w w'))
            case atStart => exact ⟨(!t378), (0), zb3, zb3, H', ⟨Nat.le_refl _⟩, ⟨(zR HO_4.out)⟩, ⟨(zB BK371.out)⟩, ⟨zb1⟩⟩
            case round =>
             clear H'
             try clear c1
             try clear c2
             try clear p2
             try clear c3
             try clear p3
             try clear q3
             try clear hx3
             try clear c9
             try clear c11
             try clear c11b0
             try clear c14
             try clear c15
             try clear c15b0
             try clear c16
             try clear c16b0
             try clear hcz12_0
             try clear hcz12_1
             try clear hcz13_0
             try clear hcz13_1
             try clear hcz19_0
             try clear hcz19_1
             try clear hcz7_0
             try clear hcz7_1
             try clear hfz12_0
             try clear hfz12_1
             try clear hfz13_0
             try clear hfz13_1
             try clear hfz19_0
             try clear hfz19_1
             try clear hfz7_0
             try clear hfz7_1
             try clear hx376_0
             try clear hx376_1
             try clear hx376_2
             try clear hx376_3
             try clear hx376_4
             try clear hx376_5
             try clear p2
             try clear p376
             try clear q376
             obtain ⟨x8_4, x9_4, rfl, rfl, HA, HK4, HO_4, BK371, HB⟩ := hrel
             cases gk with
             | zero => exact absurd HA.out (by simp [spec_Order.l2])
             | succ k4 =>
              have H := HA.out
              clear HA
              simp only [spec_Order.l2] at H
              by_cases c22 : 0 ≤ x6_2
              ·rw [if_pos c22] at H
               have c22b0 : decide (0 ≤ x6_2) = true := decide_eq_true c22
               clear c22
               by_cases c23 : x6_2 < (l0_1.length : Int)
               ·rw [if_pos c23] at H
                have c23b0 : decide (x6_2 < (l0_1.length : Int)) = true := decide_eq_true c23
                clear c23
                by_cases c24 : x9_4 < (((rd_T47 l0_1 x6_2).f5).length : Int)
                ·rw [if_pos c24] at H
                 have c24b0 : decide (x9_4 < (((rd_T47 l0_1 x6_2).f5).length : Int)) = true := decide_eq_true c24
                 clear c24
                 by_cases c25 : x8_4 = true
                 ·subst c25
                  rw [if_pos rfl] at H
                  by_cases c26 : 0 ≤ x9_4
                  ·rw [if_pos c26] at H
                   have c26b0 : decide (0 ≤ x9_4) = true := decide_eq_true c26
                   clear c26
                   replace H := Option.bind_eq_some_iff.mp H
                   obtain ⟨t382, A270, H⟩ := H
                   try dsimp only at H
                   have A27 := am A270
                   clear A270
                   have H' := am H
                   clear H
                   have hcz28_0 : wr.cell? ⟨gb371, 0, none⟩ = some (.slice A0_0 l0_0.length c0_0) := bc BK371.out 0
                   have hcz28_1 : wr.cell? ⟨gb371, 1, none⟩ = some (.slice (some ad376) l0_1.length c0_1) := bc BK371.out 1
                   have hfz28_0 := blk_frozen BK371.out 0
                   have hfz28_1 := blk_frozen BK371.out 1
                   have p379 : 0 ≤ (x6_2 : Int) := of_decide_eq_true zb6
                   have q379 : x6_2 < (l0_1.length : Int) := of_decide_eq_true zb6
                   obtain ⟨ad379, A379_3, c379_3, A379_5, c379_5, e379, hx379_0, hx379_1, hx379_2, hx379_3, hx379_4, hx379_5, hl379_3, hi379_3, hl379_5, hi379_5⟩ := at_T47 HR0_1.out x6_2 p379 q379
                   obtain rfl : ad376 = ad379 := (by injection e379)
                   replace hx379_0 := (HB.out.cell (World.block_lt_of_cell? w _ hx379_0)).trans hx379_0
                   replace hx379_1 := (HB.out.cell (World.block_lt_of_cell? w _ hx379_1)).trans hx379_1
                   replace hx379_2 := (HB.out.cell (World.block_lt_of_cell? w _ hx379_2)).trans hx379_2
                   replace hx379_3 := (HB.out.cell (World.block_lt_of_cell? w _ hx379_3)).trans hx379_3
                   replace hx379_4 := (HB.out.cell (World.block_lt_of_cell? w _ hx379_4)).trans hx379_4
                   replace hx379_5 := (HB.out.cell (World.block_lt_of_cell? w _ hx379_5)).trans hx379_5
                   have HR379_3 := am hi379_3
                   have HC379_3 := am hl379_3
                   clear hi379_3 hl379_3
                   have HR379_5 := am hi379_5
                   have HC379_5 := am hl379_5
                   clear hi379_5 hl379_5
                   replace p379 := eq_true p379
                   replace q379 := eq_true q379
                   have p380 : 0 ≤ (x6_2 : Int) := of_decide_eq_true zb6
                   have q380 : x6_2 < (l0_1.length : Int) := of_decide_eq_true zb6
                   obtain ⟨ad380, A380_3, c380_3, A380_5, c380_5, e380, hx380_0, hx380_1, hx380_2, hx380_3, hx380_4, hx380_5, hl380_3, hi380_3, hl380_5, hi380_5⟩ := at_T47 HR0_1.out x6_2 p380 q380
                   obtain rfl : ad376 = ad380 := (by injection e380)
                   replace hx380_0 := (HB.out.cell (World.block_lt_of_cell? w _ hx380_0)).trans hx380_0
                   replace hx380_1 := (HB.out.cell (World.block_lt_of_cell? w _ hx380_1)).trans hx380_1
                   replace hx380_2 := (HB.out.cell (World.block_lt_of_cell? w _ hx380_2)).trans hx380_2
                   replace hx380_3 := (HB.out.cell (World.block_lt_of_cell? w _ hx380_3)).trans hx380_3
                   replace hx380_4 := (HB.out.cell (World.block_lt_of_cell? w _ hx380_4)).trans hx380_4
                   replace hx380_5 := (HB.out.cell (World.block_lt_of_cell? w _ hx380_5)).trans hx380_5
                   have HR380_3 := am hi380_3
                   have HC380_3 := am hl380_3
                   clear hi380_3 hl380_3
                   have HR380_5 := am hi380_5
                   have HC380_5 := am hl380_5
                   clear hi380_5 hl380_5
                   replace p380 := eq_true p380
                   replace q380 := eq_true q380
                   have ea_ := Option.some.inj (hx379_3.symm.trans hx380_3)
                   injection ea_ with ea_ en_ ec_
                   subst ea_
                   subst ec_
                   clear en_
                   have ea_ := Option.some.inj (hx379_5.symm.trans hx380_5)
                   injection ea_ with ea_ en_ ec_
                   subst ea_
                   subst ec_
                   clear en_
                   have p381 : 0 ≤ (x9_4 : Int) := of_decide_eq_true zb6
                   have q381 : x9_4 < (((rd_T47 l0_1 x6_2).f5).length : Int) := of_decide_eq_true zb6
                   obtain ⟨ad381, e381, hx381_0⟩ := Kd.at_string HR380_5.out x9_4 p381 q381
                   cases e381
                   replace hx381_0 := (HB.out.cell (World.block_lt_of_cell? w _ hx381_0)).trans hx381_0
                   replace p381 := eq_true p381
                   replace q381 := eq_true q381
                   go_wp2_with (first | (go_at_call 71; (with_reducible refine (spec_l04Has.calls k4 _ _ x4_2 (rdOf ByteArray.empty ((rd_T47 l0_1 x6_2).f5) x9_4) t382 _ ?side1 ?side2 A27.out).mono ?_); (case side1 => exact zb9); (case side2 => exact (Kd.R_reads' HO_4.out).2.1); rintro e w' ⟨rfl, ⟨nd, rfl⟩⟩; (try exact zb15)))
                   repeat (go_quiet (first | (go_at_call 71; (with_reducible refine (spec_l04Has.calls k4 _ _ x4_2 (rdOf ByteArray.empty ((rd_T47 l0_1 x6_2).f5) x9_4) t382 _ ?side1 ?side2 A27.out).mono ?_); (case side1 => exact zb9); (case side2 => exact (Kd.R_reads' HO_4.out).2.1); rintro e w' ⟨rfl, ⟨nd, rfl⟩⟩; (try exact zb15))); try go_wp2_with (first | (go_at_call 71; (with_reducible refine (spec_l04Has.calls k4 _ _ x4_2 (rdOf ByteArray.empty ((rd_T47 l0_1 x6_2).f5) x9_4) t382 _ ?side1 ?side2 A27.out).mono ?_); (case side1 => exact zb9); (case side2 => exact (Kd.R_reads' HO_4.out).2.1); rintro e w' ⟨rfl, ⟨nd, rfl⟩⟩; (try exact zb15))))
                   go_roundg k4
                   case measure => have := HK1.out; have := HK2.out; have := HJ9.out; have := HK4.out; omega
                   case rel => exact ⟨(t382), (wrap64 (x9_4 + 1)), zb3, zb3, H', ⟨by have := HK1.out; have := HK2.out; have := HJ9.out; have := HK4.out; omega⟩, ⟨(zR HO_4.out)⟩, ⟨(zB BK371.out)⟩, ⟨zb1⟩⟩
                  ·rw [if_neg c26] at H
                   exact absurd H zb44
                 ·replace c25 := Bool.eq_false_iff.mpr c25
                  subst c25
                  rw [if_neg (show ¬ (false = true) by decide)] at H
                  have H' := am H
                  clear H
                  have hcz29_0 : wr.cell? ⟨gb371, 0, none⟩ = some (.slice A0_0 l0_0.length c0_0) := bc BK371.out 0
                  have hcz29_1 : wr.cell? ⟨gb371, 1, none⟩ = some (.slice (some ad376) l0_1.length c0_1) := bc BK371.out 1
                  have hfz29_0 := blk_frozen BK371.out 0
                  have hfz29_1 := blk_frozen BK371.out 1
                  have p379 : 0 ≤ (x6_2 : Int) := of_decide_eq_true zb6
                  have q379 : x6_2 < (l0_1.length : Int) := of_decide_eq_true zb6
                  obtain ⟨ad379, A379_3, c379_3, A379_5, c379_5, e379, hx379_0, hx379_1, hx379_2, hx379_3, hx379_4, hx379_5, hl379_3, hi379_3, hl379_5, hi379_5⟩ := at_T47 HR0_1.out x6_2 p379 q379
                  obtain rfl : ad376 = ad379 := (by injection e379)
                  replace hx379_0 := (HB.out.cell (World.block_lt_of_cell? w _ hx379_0)).trans hx379_0
                  replace hx379_1 := (HB.out.cell (World.block_lt_of_cell? w _ hx379_1)).trans hx379_1
                  replace hx379_2 := (HB.out.cell (World.block_lt_of_cell? w _ hx379_2)).trans hx379_2
                  replace hx379_3 := (HB.out.cell (World.block_lt_of_cell? w _ hx379_3)).trans hx379_3
                  replace hx379_4 := (HB.out.cell (World.block_lt_of_cell? w _ hx379_4)).trans hx379_4
                  replace hx379_5 := (HB.out.cell (World.block_lt_of_cell? w _ hx379_5)).trans hx379_5
                  have HR379_3 := am hi379_3
                  have HC379_3 := am hl379_3
                  clear hi379_3 hl379_3
                  have HR379_5 := am hi379_5
                  have HC379_5 := am hl379_5
                  clear hi379_5 hl379_5
                  replace p379 := eq_true p379
                  replace q379 := eq_true q379
                  go_wp2
                  repeat (go_quiet (fail); try go_wp2)
                  go_roundg k4
                  case measure => have := HK1.out; have := HK2.out; have := HJ9.out; have := HK4.out; omega
                  case rel => exact ⟨(false), (wrap64 (x9_4 + 1)), zb3, zb3, H', ⟨by have := HK1.out; have := HK2.out; have := HJ9.out; have := HK4.out; omega⟩, ⟨(zR HO_4.out)⟩, ⟨(zB BK371.out)⟩, ⟨zb1⟩⟩
                ·rw [if_neg c24] at H
                 have c24b0 : decide (x9_4 < (((rd_T47 l0_1 x6_2).f5).length : Int)) = false := decide_eq_false c24
                 clear c24
                 by_cases c30 : x8_4 = true
                 ·subst c30
                  rw [if_pos rfl] at H
                  by_cases c31 : x4_2.length < 8796093022208
                  ·rw [if_pos c31] at H
                   have LMc31 := am c31
                   clear c31
                   obtain ⟨y383, hy383⟩ : ∃ y_ : List ByteArray, y_ = (x4_2 ++ [t377]) := ⟨_, rfl⟩
                   replace H : (spec_Order.l1 k4 y383 true (wrap64 (x6_2 + 1)) l0_0 l0_1) = some (r1, r2) := by first | (rw [hy383]; with_reducible exact H) | (have H2_ := (Option.bind_some _ _).symm.trans H; rw [hy383]; with_reducible exact H2_) | (have H2_ := (Option.bind_some _ _).symm.trans H; with_reducible exact H2_) | with_reducible exact H | (rw [hy383]; exact H) | exact H
                   have Ny383 := am hy383
                   clear hy383
                   have H' := am H
                   clear H
                   have hcz32_0 : wr.cell? ⟨gb371, 0, none⟩ = some (.slice A0_0 l0_0.length c0_0) := bc BK371.out 0
                   have hcz32_1 : wr.cell? ⟨gb371, 1, none⟩ = some (.slice (some ad376) l0_1.length c0_1) := bc BK371.out 1
                   have hfz32_0 := blk_frozen BK371.out 0
                   have hfz32_1 := blk_frozen BK371.out 1
                   have p379 : 0 ≤ (x6_2 : Int) := of_decide_eq_true zb6
                   have q379 : x6_2 < (l0_1.length : Int) := of_decide_eq_true zb6
                   obtain ⟨ad379, A379_3, c379_3, A379_5, c379_5, e379, hx379_0, hx379_1, hx379_2, hx379_3, hx379_4, hx379_5, hl379_3, hi379_3, hl379_5, hi379_5⟩ := at_T47 HR0_1.out x6_2 p379 q379
                   obtain rfl : ad376 = ad379 := (by injection e379)
                   replace hx379_0 := (HB.out.cell (World.block_lt_of_cell? w _ hx379_0)).trans hx379_0
                   replace hx379_1 := (HB.out.cell (World.block_lt_of_cell? w _ hx379_1)).trans hx379_1
                   replace hx379_2 := (HB.out.cell (World.block_lt_of_cell? w _ hx379_2)).trans hx379_2
                   replace hx379_3 := (HB.out.cell (World.block_lt_of_cell? w _ hx379_3)).trans hx379_3
                   replace hx379_4 := (HB.out.cell (World.block_lt_of_cell? w _ hx379_4)).trans hx379_4
                   replace hx379_5 := (HB.out.cell (World.block_lt_of_cell? w _ hx379_5)).trans hx379_5
                   have HR379_3 := am hi379_3
                   have HC379_3 := am hl379_3
                   clear hi379_3 hl379_3
                   have HR379_5 := am hi379_5
                   have HC379_5 := am hl379_5
                   clear hi379_5 hl379_5
                   replace p379 := eq_true p379
                   replace q379 := eq_true q379
                   go_wp2_with (first | ((with_reducible refine gate_builtin (b := .append) (xs := #[.tmp 63, .tmp 65]) rfl ?_); at_builtin; refine Kd.R_append Kd.string (w0 := w) w.heap.size rfl (.tmp 63) (.tmp 65) 36 9 (.string ⟨#[]⟩) 16 rfl Tryz.underlying36 info9 rfl zb36 (by omega) (.slice Ao21 x4_2.length co21) x4_2 t377 [.string t377] (fun _ => True) (fun _ => False) rfl rfl ?aP (fun _ hk => hk.elim) ?aF ?aO ?aB ?aS ?aL ?_; (case aP => exact rfl); (case aB => exact zb1); (case aF => exact (fun _ _ => trivial)); (case aO => exact (zR HO_4.out)); (case aS => exact (below_size zb1)); (case aL => have := LMc31.out; omega); intro v384 w33 ho hb hg hat; rw [← Ny383.out] at ho; replace BK371 := am (blk_grown (g := gb371) (o := .cells #[.slice A0_0 l0_0.length c0_0, .slice (some ad376) l0_1.length c0_1] 39 (0, 0)) (zB BK371.out) hg (Kd.R_ne HO_4.out BK371.out zb36)); replace HB := am hb; have HO385 := am ho; clear HO_4 ho hb hg hat))
                   repeat (go_quiet (first | ((with_reducible refine gate_builtin (b := .append) (xs := #[.tmp 63, .tmp 65]) rfl ?_); at_builtin; refine Kd.R_append Kd.string (w0 := w) w.heap.size rfl (.tmp 63) (.tmp 65) 36 9 (.string ⟨#[]⟩) 16 rfl Tryz.underlying36 info9 rfl zb36 (by omega) (.slice Ao21 x4_2.length co21) x4_2 t377 [.string t377] (fun _ => True) (fun _ => False) rfl rfl ?aP (fun _ hk => hk.elim) ?aF ?aO ?aB ?aS ?aL ?_; (case aP => exact rfl); (case aB => exact zb1); (case aF => exact (fun _ _ => trivial)); (case aO => exact (zR HO_4.out)); (case aS => exact (below_size zb1)); (case aL => have := LMc31.out; omega); intro v384 w33 ho hb hg hat; rw [← Ny383.out] at ho; replace BK371 := am (blk_grown (g := gb371) (o := .cells #[.slice A0_0 l0_0.length c0_0, .slice (some ad376) l0_1.length c0_1] 39 (0, 0)) (zB BK371.out) hg (Kd.R_ne HO_4.out BK371.out zb36)); replace HB := am hb; have HO385 := am ho; clear HO_4 ho hb hg hat)); try go_wp2_with (first | ((with_reducible refine gate_builtin (b := .append) (xs := #[.tmp 63, .tmp 65]) rfl ?_); at_builtin; refine Kd.R_append Kd.string (w0 := w) w.heap.size rfl (.tmp 63) (.tmp 65) 36 9 (.string ⟨#[]⟩) 16 rfl Tryz.underlying36 info9 rfl zb36 (by omega) (.slice Ao21 x4_2.length co21) x4_2 t377 [.string t377] (fun _ => True) (fun _ => False) rfl rfl ?aP (fun _ hk => hk.elim) ?aF ?aO ?aB ?aS ?aL ?_; (case aP => exact rfl); (case aB => exact zb1); (case aF => exact (fun _ _ => trivial)); (case aO => exact (zR HO_4.out)); (case aS => exact (below_size zb1)); (case aL => have := LMc31.out; omega); intro v384 w33 ho hb hg hat; rw [← Ny383.out] at ho; replace BK371 := am (blk_grown (g := gb371) (o := .cells #[.slice A0_0 l0_0.length c0_0, .slice (some ad376) l0_1.length c0_1] 39 (0, 0)) (zB BK371.out) hg (Kd.R_ne HO_4.out BK371.out zb36)); replace HB := am hb; have HO385 := am ho; clear HO_4 ho hb hg hat)))
                   go_roundg k4
                   case measure => have := HK1.out; have := HK2.out; have := HJ9.out; have := HK4.out; omega
                   case rel => exact ⟨(y383), (true), (wrap64 (x6_2 + 1)), zb3, zb3, H', ⟨by have := HK1.out; have := HK2.out; have := HJ9.out; have := HK4.out; omega⟩, ⟨(zR HO385.out)⟩, ⟨(zB BK371.out)⟩, ⟨zb1⟩⟩
                  ·rw [if_neg c31] at H
                   exact absurd H zb44
                 ·replace c30 := Bool.eq_false_iff.mpr c30
                  subst c30
                  rw [if_neg (show ¬ (false = true) by decide)] at H
                  have H' := am H
                  clear H
                  have hcz34_0 : wr.cell? ⟨gb371, 0, none⟩ = some (.slice A0_0 l0_0.length c0_0) := bc BK371.out 0
                  have hcz34_1 : wr.cell? ⟨gb371, 1, none⟩ = some (.slice (some ad376) l0_1.length c0_1) := bc BK371.out 1
                  have hfz34_0 := blk_frozen BK371.out 0
                  have hfz34_1 := blk_frozen BK371.out 1
                  have p379 : 0 ≤ (x6_2 : Int) := of_decide_eq_true zb6
                  have q379 : x6_2 < (l0_1.length : Int) := of_decide_eq_true zb6
                  obtain ⟨ad379, A379_3, c379_3, A379_5, c379_5, e379, hx379_0, hx379_1, hx379_2, hx379_3, hx379_4, hx379_5, hl379_3, hi379_3, hl379_5, hi379_5⟩ := at_T47 HR0_1.out x6_2 p379 q379
                  obtain rfl : ad376 = ad379 := (by injection e379)
                  replace hx379_0 := (HB.out.cell (World.block_lt_of_cell? w _ hx379_0)).trans hx379_0
                  replace hx379_1 := (HB.out.cell (World.block_lt_of_cell? w _ hx379_1)).trans hx379_1
                  replace hx379_2 := (HB.out.cell (World.block_lt_of_cell? w _ hx379_2)).trans hx379_2
                  replace hx379_3 := (HB.out.cell (World.block_lt_of_cell? w _ hx379_3)).trans hx379_3
                  replace hx379_4 := (HB.out.cell (World.block_lt_of_cell? w _ hx379_4)).trans hx379_4
                  replace hx379_5 := (HB.out.cell (World.block_lt_of_cell? w _ hx379_5)).trans hx379_5
                  have HR379_3 := am hi379_3
                  have HC379_3 := am hl379_3
                  clear hi379_3 hl379_3
                  have HR379_5 := am hi379_5
                  have HC379_5 := am hl379_5
                  clear hi379_5 hl379_5
                  replace p379 := eq_true p379
                  replace q379 := eq_true q379
                  go_wp2
                  repeat (go_quiet (fail); try go_wp2)
                  go_roundg k4
                  case measure => have := HK1.out; have := HK2.out; have := HJ9.out; have := HK4.out; omega
                  case rel => exact ⟨(x4_2), (x5_2), (wrap64 (x6_2 + 1)), zb3, zb3, H', ⟨by have := HK1.out; have := HK2.out; have := HJ9.out; have := HK4.out; omega⟩, ⟨(zR HO_4.out)⟩, ⟨(zB BK371.out)⟩, ⟨zb1⟩⟩
               ·rw [if_neg c23] at H
                exact absurd H zb44
              ·rw [if_neg c22] at H
               exact absurd H zb44
           ·rw [if_neg c16] at H
            exact absurd H zb44
          ·rw [if_neg c15] at H
           exact absurd H zb44
         ·replace c14 := Bool.eq_false_iff.mpr c14
          subst c14
          rw [if_neg (show ¬ (false = true) by decide)] at H
          have H' := am H
          clear H
          go_wp2
          repeat (go_quiet (fail); try go_wp2)
          go_roundg kj9
          case measure => have := HK1.out; have := HK2.out; have := HJ9.out; omega
          case rel => exact ⟨(x4_2), (x5_2), zb3, H', ⟨by have := HK1.out; have := HK2.out; have := HJ9.out; omega⟩, ⟨(zR HO_4.out)⟩, ⟨(zB BK371.out)⟩, ⟨zb1⟩⟩
    ·replace c9 := Bool.eq_false_iff.mpr c9
     subst c9
     rw [if_neg (show ¬ (false = true) by decide)] at H
     simp only [Option.some.injEq, Prod.mk.injEq] at H
     obtain ⟨rfl, rfl⟩ := H
     obtain ⟨Ao35, co35, eo35⟩ := Kd.R_slice HO_4.out
     subst eo35
     have hcz36_0 : wr.cell? ⟨gb371, 0, none⟩ = some (.slice A0_0 l0_0.length c0_0) := bc BK371.out 0
     have hcz36_1 : wr.cell? ⟨gb371, 1, none⟩ = some (.slice A0_1 l0_1.length c0_1) := bc BK371.out 1
     have hfz36_0 := blk_frozen BK371.out 0
     have hfz36_1 := blk_frozen BK371.out 1
     go_wp2
     repeat (go_quiet (fail); try go_wp2)
     go_ret2
     exact ⟨_, zb12, (zR HO_4.out), zb1⟩
 ·replace c3 := Bool.eq_false_iff.mpr c3
  subst c3
  rw [if_neg (show ¬ (false = true) by decide)] at H
  simp only [Option.some.injEq, Prod.mk.injEq] at H
  obtain ⟨rfl, rfl⟩ := H
  go_enter Tryz.func26, Tryz.ntmps26
  go_wp2_with (first | ((with_reducible refine gate_dst (N := 1) rfl ?_); refine box_event ?hg (N := 1) ?hd (cs := #[.slice A0_0 l0_0.length c0_0, .slice A0_1 l0_1.length c0_1]) (t := 39) ?hr ?_; (case hd => rfl); (case hg => rfl); (case hr => exact zb13); intro gb371 hg w37 hbox hb; have BK371 := am hbox; have GW371 := am ((by rw [hg]; exact (below_size zb0) : w.heap.size ≤ gb371)); have GE371 := am ((by rw [hg]; exact (below_size zb0) : w.heap.size ≤ gb371)); replace HB := am (below_step zb0 hb); clear hb hbox hg) | ((with_reducible refine gate_dst (N := 10) rfl ?_); refine Kd.R_lit Kd.string _ 9 ?hg (N := 10) ?hd (xs := ([] : List ByteArray)) (inner := []) (ok := fun _ => True) (okp := fun _ => True) ?hr ?hp (fun _ hk => hk) trivial (Below.refl _ _) (Nat.le_refl _) zb44 ?_; (case hd => rfl); (case hg => rfl); (case hr => exact zb13); (case hp => exact (Reps.none _ _)); intro v373 w38 ho39 hb hg_ hnew_; clear hg_ hnew_; (first | rw [← Ny372.out] at ho39 | (simp only [Int.reduceToNat] at ho39; rw [← Ny372.out] at ho39)); have HO374 := am (Kd.R_lower ho39 (below_size zb1)); replace BK371 := am (blk_below (g := gb371) (o := .cells #[.slice A0_0 l0_0.length c0_0, .slice A0_1 l0_1.length c0_1] 39 (0, 0)) (zB BK371.out) hb); replace HB := am (below_step zb1 hb); clear hb ho39; have hcz40_0 : w38.cell? ⟨gb371, 0, none⟩ = some (.slice A0_0 l0_0.length c0_0) := bc BK371.out 0; have hcz40_1 : w38.cell? ⟨gb371, 1, none⟩ = some (.slice A0_1 l0_1.length c0_1) := bc BK371.out 1; have hfz40_0 := blk_frozen BK371.out 0; have hfz40_1 := blk_frozen BK371.out 1) | (go_at_call 28; (with_reducible refine (spec_GraphOk.calls k _ _ l0_0 _ _ l0_1 false _ ?side1 ?side2 ?side3 ?side4 ?side5 ?side6 ?side7 A2.out).mono ?_); (case side1 => exact zb7); (case side2 => exact HC0_0.out); (case side3 => exact zb8); (case side4 => exact HC0_1.out); (case side5 => exact Glob.below HGE.out zb1); (case side6 => exact Glob.below HGM.out zb1); (case side7 => exact Glob.below HGT.out zb1); rintro e w41 ⟨rfl, hb⟩; replace HO374 := am (Kd.R_below (zR HO374.out) hb); replace BK371 := am (blk_below (g := gb371) (o := .cells #[.slice A0_0 l0_0.length c0_0, .slice A0_1 l0_1.length c0_1] 39 (0, 0)) (zB BK371.out) hb); replace HB := am (below_step zb1 hb); (try clear hb)))
  repeat (go_quiet (first | ((with_reducible refine gate_dst (N := 1) rfl ?_); refine box_event ?hg (N := 1) ?hd (cs := #[.slice A0_0 l0_0.length c0_0, .slice A0_1 l0_1.length c0_1]) (t := 39) ?hr ?_; (case hd => rfl); (case hg => rfl); (case hr => exact zb13); intro gb371 hg w37 hbox hb; have BK371 := am hbox; have GW371 := am ((by rw [hg]; exact (below_size zb0) : w.heap.size ≤ gb371)); have GE371 := am ((by rw [hg]; exact (below_size zb0) : w.heap.size ≤ gb371)); replace HB := am (below_step zb0 hb); clear hb hbox hg) | ((with_reducible refine gate_dst (N := 10) rfl ?_); refine Kd.R_lit Kd.string _ 9 ?hg (N := 10) ?hd (xs := ([] : List ByteArray)) (inner := []) (ok := fun _ => True) (okp := fun _ => True) ?hr ?hp (fun _ hk => hk) trivial (Below.refl _ _) (Nat.le_refl _) zb44 ?_; (case hd => rfl); (case hg => rfl); (case hr => exact zb13); (case hp => exact (Reps.none _ _)); intro v373 w38 ho39 hb hg_ hnew_; clear hg_ hnew_; (first | rw [← Ny372.out] at ho39 | (simp only [Int.reduceToNat] at ho39; rw [← Ny372.out] at ho39)); have HO374 := am (Kd.R_lower ho39 (below_size zb1)); replace BK371 := am (blk_below (g := gb371) (o := .cells #[.slice A0_0 l0_0.length c0_0, .slice A0_1 l0_1.length c0_1] 39 (0, 0)) (zB BK371.out) hb); replace HB := am (below_step zb1 hb); clear hb ho39; have hcz40_0 : w38.cell? ⟨gb371, 0, none⟩ = some (.slice A0_0 l0_0.length c0_0) := bc BK371.out 0; have hcz40_1 : w38.cell? ⟨gb371, 1, none⟩ = some (.slice A0_1 l0_1.length c0_1) := bc BK371.out 1; have hfz40_0 := blk_frozen BK371.out 0; have hfz40_1 := blk_frozen BK371.out 1) | (go_at_call 28; (with_reducible refine (spec_GraphOk.calls k _ _ l0_0 _ _ l0_1 false _ ?side1 ?side2 ?side3 ?side4 ?side5 ?side6 ?side7 A2.out).mono ?_); (case side1 => exact zb7); (case side2 => exact HC0_0.out); (case side3 => exact zb8); (case side4 => exact HC0_1.out); (case side5 => exact Glob.below HGE.out zb1); (case side6 => exact Glob.below HGM.out zb1); (case side7 => exact Glob.below HGT.out zb1); rintro e w41 ⟨rfl, hb⟩; replace HO374 := am (Kd.R_below (zR HO374.out) hb); replace BK371 := am (blk_below (g := gb371) (o := .cells #[.slice A0_0 l0_0.length c0_0, .slice A0_1 l0_1.length c0_1] 39 (0, 0)) (zB BK371.out) hb); replace HB := am (below_step zb1 hb); (try clear hb))); try go_wp2_with (first | ((with_reducible refine gate_dst (N := 1) rfl ?_); refine box_event ?hg (N := 1) ?hd (cs := #[.slice A0_0 l0_0.length c0_0, .slice A0_1 l0_1.length c0_1]) (t := 39) ?hr ?_; (case hd => rfl); (case hg => rfl); (case hr => exact zb13); intro gb371 hg w37 hbox hb; have BK371 := am hbox; have GW371 := am ((by rw [hg]; exact (below_size zb0) : w.heap.size ≤ gb371)); have GE371 := am ((by rw [hg]; exact (below_size zb0) : w.heap.size ≤ gb371)); replace HB := am (below_step zb0 hb); clear hb hbox hg) | ((with_reducible refine gate_dst (N := 10) rfl ?_); refine Kd.R_lit Kd.string _ 9 ?hg (N := 10) ?hd (xs := ([] : List ByteArray)) (inner := []) (ok := fun _ => True) (okp := fun _ => True) ?hr ?hp (fun _ hk => hk) trivial (Below.refl _ _) (Nat.le_refl _) zb44 ?_; (case hd => rfl); (case hg => rfl); (case hr => exact zb13); (case hp => exact (Reps.none _ _)); intro v373 w38 ho39 hb hg_ hnew_; clear hg_ hnew_; (first | rw [← Ny372.out] at ho39 | (simp only [Int.reduceToNat] at ho39; rw [← Ny372.out] at ho39)); have HO374 := am (Kd.R_lower ho39 (below_size zb1)); replace BK371 := am (blk_below (g := gb371) (o := .cells #[.slice A0_0 l0_0.length c0_0, .slice A0_1 l0_1.length c0_1] 39 (0, 0)) (zB BK371.out) hb); replace HB := am (below_step zb1 hb); clear hb ho39; have hcz40_0 : w38.cell? ⟨gb371, 0, none⟩ = some (.slice A0_0 l0_0.length c0_0) := bc BK371.out 0; have hcz40_1 : w38.cell? ⟨gb371, 1, none⟩ = some (.slice A0_1 l0_1.length c0_1) := bc BK371.out 1; have hfz40_0 := blk_frozen BK371.out 0; have hfz40_1 := blk_frozen BK371.out 1) | (go_at_call 28; (with_reducible refine (spec_GraphOk.calls k _ _ l0_0 _ _ l0_1 false _ ?side1 ?side2 ?side3 ?side4 ?side5 ?side6 ?side7 A2.out).mono ?_); (case side1 => exact zb7); (case side2 => exact HC0_0.out); (case side3 => exact zb8); (case side4 => exact HC0_1.out); (case side5 => exact Glob.below HGE.out zb1); (case side6 => exact Glob.below HGM.out zb1); (case side7 => exact Glob.below HGT.out zb1); rintro e w41 ⟨rfl, hb⟩; replace HO374 := am (Kd.R_below (zR HO374.out) hb); replace BK371 := am (blk_below (g := gb371) (o := .cells #[.slice A0_0 l0_0.length c0_0, .slice A0_1 l0_1.length c0_1] 39 (0, 0)) (zB BK371.out) hb); replace HB := am (below_step zb1 hb); (try clear hb))))
  go_ret2
  exact ⟨_, zb12, (zR HO374.out), zb1⟩
end Go.Proofs.YtieohddolkeegaaGreatDoor.G

end
