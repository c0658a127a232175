/- A part of the proof that the law FnRange answers true at every input that its row speaks of. Conditions: the row's own. -/
import Derived.Test.YtieohddolkeegaaGreatDoorMFnRange4
import Derived.Test.YtieohddolkeegaaGreatDoorKFnRange0
import Derived.Test.YtieohddolkeegaaGreatDoorKFnRange1
import Derived.Test.YtieohddolkeegaaGreatDoorMFnRange0
import Derived.Test.YtieohddolkeegaaGreatDoorMFnRange1
import Derived.Test.YtieohddolkeegaaGreatDoorGlob
section
namespace Go.Proofs.YtieohddolkeegaaGreatDoor.VI
open Go Go.RowKit Go.Proofs.YtieohddolkeegaaGreatDoor.G Go.Proofs.aA.aZ
set_option maxRecDepth 100000
set_option maxHeartbeats 16000000
attribute [local irreducible] bite jY bG
theorem dN.vi {k m : Nat} {Gv : nK} (hG : Base Gv) (hm : k + 3 ≤ m) (a0 : ByteArray) (a1 : ByteArray) : Im (fun r => (.int r, [])) (dN.f k a0 a1) (bI Tryz.prog ti keep Gv m 146 [.str a0, .str a1]) := by
  obtain ⟨m, rfl⟩ : ∃ m', m = m' + 1 := ⟨m - 1, by omega⟩
  rw [show bI Tryz.prog ti keep Gv (m + 1) 146 _ = _ from bC ((bq hG 146).trans rfl) Tryz.func146 (by kernel_rfl) rfl rfl]
  unfold dN.f
  repeat' first
   | ((with_reducible refine Im.nat (fun k => dN.j0 k _ _ _ _ _) _ ?_ (fun kj hkj => ?_)); rfl; (conv => arg 2; simp only [dN.j0, Bool.false_eq_true, reduceIte])) | (with_reducible first | exact Im.none | refine Im.ite (fun h => ?_) (fun h => ?_) | refine Im.gy ?_)
   | ((conv => arg 3; whnf); first
    | ((with_reducible refine Im.fin ?_); exact zr) | ((with_reducible refine Im.je ?_ ?_); kernel_rfl) | ((with_reducible refine Im.bH ?_ ?_); exact zq) | ((with_reducible refine Im.bJ ?_ ?_); exact zq) | ((with_reducible refine Im.bH ?_ ?_); exact zd) | ((with_reducible refine Im.must ?_ ?_); exact zd) | ((with_reducible refine Im.bJ ?_ ?_); exact zd) | (with_reducible refine Im.qc ?_) | ((with_reducible refine Im.bG ByteArray.empty ?_ ?_ ?_); exact zd; exact zd) | ((with_reducible refine Im.bG z67 ?_ ?_ ?_); exact zd; exact zd) | ((with_reducible refine Im.bG (0 : Int) ?_ ?_ ?_); exact zd; exact zd) | ((with_reducible refine Im.bG false ?_ ?_ ?_); exact zd; exact zd) | ((with_reducible refine Im.call (bW.vi hG ?_ _) ?_ (fun r hr => ?_)); omega; exact zr) | ((with_reducible refine Im.call (iH.vi hG ?_ _ _) ?_ (fun r hr => ?_)); omega; exact zr) | ((with_reducible refine Im.call (mM.vi hG ?_ _ _) ?_ (fun r hr => ?_)); omega; exact zr)
    | exact zm | exact zx | fail)
theorem aC.vi {k m : Nat} {Gv : nK} (hG : Base Gv) (hm : k + 4 ≤ m) (iY : Int) (iq : Int) (jK : Int) (jE : List ByteArray) (tV : Int) (tX : Int) (tY : Int) (tZ : List ByteArray) : Im (fun r => (.int r, [])) (aC.f k iY iq jK jE tV tX tY tZ) (bI Tryz.prog ti keep Gv m 111 [.ag [.int iY, .int iq, .int jK, .sl (jE.map VV.str)], .ag [.int tV, .int tX, .int tY, .sl (tZ.map VV.str)]]) := by
  obtain ⟨m, rfl⟩ : ∃ m', m = m' + 1 := ⟨m - 1, by omega⟩
  rw [show bI Tryz.prog ti keep Gv (m + 1) 111 _ = _ from bC ((bq hG 111).trans rfl) Tryz.func111 (by kernel_rfl) rfl rfl]
  unfold aC.f
  repeat' first
   | ((with_reducible refine Im.nat (fun k => aC.j1 k _ _ _ _ _ _ _ _ _) _ ?_ (fun kj hkj => ?_)); rfl; (conv => arg 2; simp only [aC.j1, Bool.false_eq_true, reduceIte])) | ((with_reducible refine Im.nat (fun k => aC.j3 k _ _ _ _ _ _ _ _ _ _) _ ?_ (fun kj hkj => ?_)); rfl; (conv => arg 2; simp only [aC.j3, Bool.false_eq_true, reduceIte])) | (with_reducible first | exact Im.none | refine Im.ite (fun h => ?_) (fun h => ?_) | refine Im.gy ?_)
   | ((conv => arg 3; whnf); first
    | ((with_reducible refine Im.fin ?_); exact zr) | ((with_reducible refine Im.je ?_ ?_); kernel_rfl) | ((with_reducible refine Im.bH ?_ ?_); exact zq) | ((with_reducible refine Im.bJ ?_ ?_); exact zq) | ((with_reducible refine Im.bH ?_ ?_); exact zd) | ((with_reducible refine Im.must ?_ ?_); exact zd) | ((with_reducible refine Im.bJ ?_ ?_); exact zd) | (with_reducible refine Im.qc ?_) | ((with_reducible refine Im.bG ByteArray.empty ?_ ?_ ?_); exact zd; exact zd) | ((with_reducible refine Im.bG z67 ?_ ?_ ?_); exact zd; exact zd) | ((with_reducible refine Im.bG (0 : Int) ?_ ?_ ?_); exact zd; exact zd) | ((with_reducible refine Im.bG false ?_ ?_ ?_); exact zd; exact zd) | ((with_reducible refine Im.call (iH.vi hG ?_ _ _) ?_ (fun r hr => ?_)); omega; exact zr) | ((with_reducible refine Im.call (dN.vi hG ?_ _ _) ?_ (fun r hr => ?_)); omega; exact zr) | ((with_reducible refine ih1 _ ⟨_, _, _, _, _, _, _, _, _, _⟩ _ ?_ ?_); exact zo; exact zr) | ((with_reducible refine ih2 _ ⟨_, _, _, _, _, _, _, _, _⟩ _ ?_ ?_); exact zo; exact zr) | ((with_reducible refine Im.loop (S := fun s : List Int × Int × Int × Int × Int × List ByteArray × Int × Int × Int × List ByteArray => .un :: .un :: .bx [.int s.2.2.1, .int s.2.2.2.1, .int s.2.2.2.2.1, .sl (s.2.2.2.2.2.1.map VV.str)] :: .bx [.int s.2.2.2.2.2.2.1, .int s.2.2.2.2.2.2.2.1, .int s.2.2.2.2.2.2.2.2.1, .sl (s.2.2.2.2.2.2.2.2.2.map VV.str)] :: .un :: .ow 3 1 (s.1.map VV.int) :: .int s.2.1 :: u83) (L := fun k s => aC.l0 k s.1 s.2.1 s.2.2.1 s.2.2.2.1 s.2.2.2.2.1 s.2.2.2.2.2.1 s.2.2.2.2.2.2.1 s.2.2.2.2.2.2.2.1 s.2.2.2.2.2.2.2.2.1 s.2.2.2.2.2.2.2.2.2) _ ?_ ?_ _ _ ⟨_, _, _, _, _, _, _, _, _, _⟩ _ (Nat.le_refl _) zo ?_); (next => intro s; rfl); rotate_left; exact zr; intro k1 M1 ⟨x5, x6, qC, qE, qF, lT, qG, qH, qI, lU⟩ hk1 hM1 ih1; conv => arg 2; simp only [aC.l0]) | ((with_reducible refine Im.loop (S := fun s : Int × Int × Int × Int × List ByteArray × Int × Int × Int × List ByteArray => .un :: .un :: .bx [.int s.2.1, .int s.2.2.1, .int s.2.2.2.1, .sl (s.2.2.2.2.1.map VV.str)] :: .bx [.int s.2.2.2.2.2.1, .int s.2.2.2.2.2.2.1, .int s.2.2.2.2.2.2.2.1, .sl (s.2.2.2.2.2.2.2.2.map VV.str)] :: .un :: .un :: .un :: .int s.1 :: u82) (L := fun k s => aC.l1 k s.1 s.2.1 s.2.2.1 s.2.2.2.1 s.2.2.2.2.1 s.2.2.2.2.2.1 s.2.2.2.2.2.2.1 s.2.2.2.2.2.2.2.1 s.2.2.2.2.2.2.2.2) _ ?_ ?_ _ _ ⟨_, _, _, _, _, _, _, _, _⟩ _ (Nat.le_refl _) zo ?_); (next => intro s; rfl); rotate_left; exact zr; intro k2 M2 ⟨x7, qC, qE, qF, lT, qG, qH, qI, lU⟩ hk2 hM2 ih2; conv => arg 2; simp only [aC.l1])
    | exact zm | exact zx | fail)
theorem gZ.vi {k m : Nat} {Gv : nK} (hG : Base Gv) (hm : k + 5 ≤ m) (iY : Int) (iq : Int) (jK : Int) (jE : List ByteArray) (a1 : Int) : Im (fun r => (.ag [.int r.1, .int r.2.1, .int r.2.2.1, .sl (r.2.2.2.map VV.str)], [])) (gZ.f k iY iq jK jE a1) (bI Tryz.prog ti keep Gv m 142 [.ag [.int iY, .int iq, .int jK, .sl (jE.map VV.str)], .int a1]) := by
  obtain ⟨m, rfl⟩ : ∃ m', m = m' + 1 := ⟨m - 1, by omega⟩
  rw [show bI Tryz.prog ti keep Gv (m + 1) 142 _ = _ from bC ((bq hG 142).trans rfl) Tryz.func142 (by kernel_rfl) rfl rfl]
  unfold gZ.f
  repeat' first
   | ((with_reducible refine Im.nat (fun k => gZ.j0 k _ _ _ _ _ _ _ _ _ _ _ _ _) _ ?_ (fun kj hkj => ?_)); rfl; (conv => arg 2; simp only [gZ.j0, Bool.false_eq_true, reduceIte])) | (with_reducible first | exact Im.none | refine Im.ite (fun h => ?_) (fun h => ?_) | refine Im.gy ?_)
   | ((conv => arg 3; whnf); first
    | ((with_reducible refine Im.fin ?_); exact zr) | ((with_reducible refine Im.je ?_ ?_); kernel_rfl) | ((with_reducible refine Im.bH ?_ ?_); exact zq) | ((with_reducible refine Im.bJ ?_ ?_); exact zq) | ((with_reducible refine Im.bH ?_ ?_); exact zd) | ((with_reducible refine Im.must ?_ ?_); exact zd) | ((with_reducible refine Im.bJ ?_ ?_); exact zd) | (with_reducible refine Im.qc ?_) | ((with_reducible refine Im.bG ByteArray.empty ?_ ?_ ?_); exact zd; exact zd) | ((with_reducible refine Im.bG z67 ?_ ?_ ?_); exact zd; exact zd) | ((with_reducible refine Im.bG (0 : Int) ?_ ?_ ?_); exact zd; exact zd) | ((with_reducible refine Im.bG false ?_ ?_ ?_); exact zd; exact zd) | ((with_reducible refine Im.call (bP.vi hG ?_ _ _ _ _) ?_ (fun r hr => ?_)); omega; exact zr) | ((with_reducible refine Im.call (fJ.vi hG ?_ _ _ _) ?_ (fun r hr => ?_)); omega; exact zr)
    | exact zm | exact zx | fail)
theorem eu.vi {k m : Nat} {Gv : nK} (hG : Base Gv) (hm : k + 6 ≤ m) (iY : Int) (iq : Int) (jK : Int) (jE : List ByteArray) (a1 : Int) : Im (fun r => (.tu [.str r.1, .bool r.2], [])) (eu.f k iY iq jK jE a1) (bI Tryz.prog ti keep Gv m 106 [.ag [.int iY, .int iq, .int jK, .sl (jE.map VV.str)], .int a1]) := by
  obtain ⟨m, rfl⟩ : ∃ m', m = m' + 1 := ⟨m - 1, by omega⟩
  rw [show bI Tryz.prog ti keep Gv (m + 1) 106 _ = _ from bC ((bq hG 106).trans rfl) Tryz.func106 (by kernel_rfl) rfl rfl]
  unfold eu.f
  repeat' first
   | (with_reducible first | exact Im.none | refine Im.ite (fun h => ?_) (fun h => ?_) | refine Im.gy ?_)
   | ((conv => arg 3; whnf); first
    | ((with_reducible refine Im.fin ?_); exact zr) | ((with_reducible refine Im.je ?_ ?_); kernel_rfl) | ((with_reducible refine Im.bH ?_ ?_); exact zq) | ((with_reducible refine Im.bJ ?_ ?_); exact zq) | ((with_reducible refine Im.bH ?_ ?_); exact zd) | ((with_reducible refine Im.must ?_ ?_); exact zd) | ((with_reducible refine Im.bJ ?_ ?_); exact zd) | (with_reducible refine Im.qc ?_) | ((with_reducible refine Im.bG ByteArray.empty ?_ ?_ ?_); exact zd; exact zd) | ((with_reducible refine Im.bG z67 ?_ ?_ ?_); exact zd; exact zd) | ((with_reducible refine Im.bG (0 : Int) ?_ ?_ ?_); exact zd; exact zd) | ((with_reducible refine Im.bG false ?_ ?_ ?_); exact zd; exact zd) | ((with_reducible refine Im.call (aC.vi hG ?_ _ _ _ _ _ _ _ _) ?_ (fun r hr => ?_)); omega; exact zr) | ((with_reducible refine Im.call (gZ.vi hG ?_ _ _ _ _ _) ?_ (fun r hr => ?_)); omega; exact zr) | ((with_reducible refine Im.call (au.vi hG ?_ _ _ _ _) ?_ (fun r hr => ?_)); omega; exact zr)
    | exact zm | exact zx | fail)
theorem fE.vi {k m : Nat} {Gv : nK} (hG : Base Gv) (hm : k + 7 ≤ m) (a0 : ByteArray) : Im (fun r => (.tu [.ag [.str r.1, .str r.2.1], .bool r.2.2], [])) (fE.f k a0) (bI Tryz.prog ti keep Gv m 59 [.str a0]) := by
  obtain ⟨m, rfl⟩ : ∃ m', m = m' + 1 := ⟨m - 1, by omega⟩
  rw [show bI Tryz.prog ti keep Gv (m + 1) 59 _ = _ from bC ((bq hG 59).trans rfl) Tryz.func59 (by kernel_rfl) rfl rfl]
  unfold fE.f
  repeat' first
   | (with_reducible first | exact Im.none | refine Im.ite (fun h => ?_) (fun h => ?_) | refine Im.gy ?_)
   | ((conv => arg 3; whnf); first
    | ((with_reducible refine Im.fin ?_); exact zr) | ((with_reducible refine Im.je ?_ ?_); kernel_rfl) | ((with_reducible refine Im.bH ?_ ?_); exact zq) | ((with_reducible refine Im.bJ ?_ ?_); exact zq) | ((with_reducible refine Im.bH ?_ ?_); exact zd) | ((with_reducible refine Im.must ?_ ?_); exact zd) | ((with_reducible refine Im.bJ ?_ ?_); exact zd) | (with_reducible refine Im.qc ?_) | ((with_reducible refine Im.bG ByteArray.empty ?_ ?_ ?_); exact zd; exact zd) | ((with_reducible refine Im.bG z67 ?_ ?_ ?_); exact zd; exact zd) | ((with_reducible refine Im.bG (0 : Int) ?_ ?_ ?_); exact zd; exact zd) | ((with_reducible refine Im.bG false ?_ ?_ ?_); exact zd; exact zd) | ((with_reducible refine Im.call (ae.vi hG ?_ _) ?_ (fun r hr => ?_)); omega; exact zr) | ((with_reducible refine Im.call (eu.vi hG ?_ _ _ _ _ _) ?_ (fun r hr => ?_)); omega; exact zr)
    | exact zm | exact zx | fail)
theorem jW.vi {m : Nat} {Gv : nK} (hG : Base Gv) (hm : 1 ≤ m) (iY : Int) (iq : Int) (jK : Int) (jE : List ByteArray) : Im (fun r => (.int r, [])) (jW.f iY iq jK jE) (bI Tryz.prog ti keep Gv m 99 [.ag [.int iY, .int iq, .int jK, .sl (jE.map VV.str)]]) := by
  obtain ⟨m, rfl⟩ : ∃ m', m = m' + 1 := ⟨m - 1, by omega⟩
  rw [show bI Tryz.prog ti keep Gv (m + 1) 99 _ = _ from bC ((bq hG 99).trans rfl) Tryz.func99 (by kernel_rfl) rfl rfl]
  unfold jW.f
  repeat' first
   | (with_reducible first | exact Im.none | refine Im.ite (fun h => ?_) (fun h => ?_) | refine Im.gy ?_)
   | ((conv => arg 3; whnf); first
    | ((with_reducible refine Im.fin ?_); exact zr) | ((with_reducible refine Im.je ?_ ?_); kernel_rfl) | ((with_reducible refine Im.bH ?_ ?_); exact zq) | ((with_reducible refine Im.bJ ?_ ?_); exact zq) | ((with_reducible refine Im.bH ?_ ?_); exact zd) | ((with_reducible refine Im.must ?_ ?_); exact zd) | ((with_reducible refine Im.bJ ?_ ?_); exact zd) | (with_reducible refine Im.qc ?_) | ((with_reducible refine Im.bG ByteArray.empty ?_ ?_ ?_); exact zd; exact zd) | ((with_reducible refine Im.bG z67 ?_ ?_ ?_); exact zd; exact zd) | ((with_reducible refine Im.bG (0 : Int) ?_ ?_ ?_); exact zd; exact zd) | ((with_reducible refine Im.bG false ?_ ?_ ?_); exact zd; exact zd)
    | exact zm | exact zx | fail)
theorem iI.vi {k m : Nat} {Gv : nK} (hG : Base Gv) (hm : k + 7 ≤ m) (a0 : ByteArray) (tV : Int) (tX : Int) (tY : Int) (tZ : List ByteArray) (a2 : Int) : Im (fun r => (.tu [.ag [.str r.1, .str r.2.1], .bool r.2.2], [])) (iI.f k a0 tV tX tY tZ a2) (bI Tryz.prog ti keep Gv m 98 [.str a0, .ag [.int tV, .int tX, .int tY, .sl (tZ.map VV.str)], .int a2]) := by
  obtain ⟨m, rfl⟩ : ∃ m', m = m' + 1 := ⟨m - 1, by omega⟩
  rw [show bI Tryz.prog ti keep Gv (m + 1) 98 _ = _ from bC ((bq hG 98).trans rfl) Tryz.func98 (by kernel_rfl) rfl rfl]
  unfold iI.f
  repeat' first
   | (with_reducible first | exact Im.none | refine Im.ite (fun h => ?_) (fun h => ?_) | refine Im.gy ?_)
   | ((conv => arg 3; whnf); first
    | ((with_reducible refine Im.fin ?_); exact zr) | ((with_reducible refine Im.je ?_ ?_); kernel_rfl) | ((with_reducible refine Im.bH ?_ ?_); exact zq) | ((with_reducible refine Im.bJ ?_ ?_); exact zq) | ((with_reducible refine Im.bH ?_ ?_); exact zd) | ((with_reducible refine Im.must ?_ ?_); exact zd) | ((with_reducible refine Im.bJ ?_ ?_); exact zd) | (with_reducible refine Im.qc ?_) | ((with_reducible refine Im.bG ByteArray.empty ?_ ?_ ?_); exact zd; exact zd) | ((with_reducible refine Im.bG z67 ?_ ?_ ?_); exact zd; exact zd) | ((with_reducible refine Im.bG (0 : Int) ?_ ?_ ?_); exact zd; exact zd) | ((with_reducible refine Im.bG false ?_ ?_ ?_); exact zd; exact zd) | ((with_reducible refine Im.call (eu.vi hG ?_ _ _ _ _ _) ?_ (fun r hr => ?_)); omega; exact zr)
    | exact zm | exact zx | fail)
theorem ak.vi {k m : Nat} {Gv : nK} (hG : Base Gv) (hm : k + 7 ≤ m) (a0 : ByteArray) : Im (fun r => (.tu [.ag [.str r.1, .str r.2.1], .bool r.2.2], [])) (ak.f k a0) (bI Tryz.prog ti keep Gv m 101 [.str a0]) := by
  obtain ⟨m, rfl⟩ : ∃ m', m = m' + 1 := ⟨m - 1, by omega⟩
  rw [show bI Tryz.prog ti keep Gv (m + 1) 101 _ = _ from bC ((bq hG 101).trans rfl) Tryz.func101 (by kernel_rfl) rfl rfl]
  unfold ak.f
  repeat' first
   | ((with_reducible refine Im.nat (fun k => ak.j0 k _ _) _ ?_ (fun kj hkj => ?_)); rfl; (conv => arg 2; simp only [ak.j0, Bool.false_eq_true, reduceIte])) | ((with_reducible refine Im.nat (fun k => ak.j1 k _ _ _ _ _ _ _) _ ?_ (fun kj hkj => ?_)); rfl; (conv => arg 2; simp only [ak.j1, Bool.false_eq_true, reduceIte])) | (with_reducible first | exact Im.none | refine Im.ite (fun h => ?_) (fun h => ?_) | refine Im.gy ?_)
   | ((conv => arg 3; whnf); first
    | ((with_reducible refine Im.fin ?_); exact zr) | ((with_reducible refine Im.je ?_ ?_); kernel_rfl) | ((with_reducible refine Im.bH ?_ ?_); exact zq) | ((with_reducible refine Im.bJ ?_ ?_); exact zq) | ((with_reducible refine Im.bH ?_ ?_); exact zd) | ((with_reducible refine Im.must ?_ ?_); exact zd) | ((with_reducible refine Im.bJ ?_ ?_); exact zd) | (with_reducible refine Im.qc ?_) | ((with_reducible refine Im.bG ByteArray.empty ?_ ?_ ?_); exact zd; exact zd) | ((with_reducible refine Im.bG z67 ?_ ?_ ?_); exact zd; exact zd) | ((with_reducible refine Im.bG (0 : Int) ?_ ?_ ?_); exact zd; exact zd) | ((with_reducible refine Im.bG false ?_ ?_ ?_); exact zd; exact zd) | ((with_reducible refine Im.call (ae.vi hG ?_ _) ?_ (fun r hr => ?_)); omega; exact zr) | ((with_reducible refine Im.call (dF.vi hG ?_ _ _) ?_ (fun r hr => ?_)); omega; exact zr) | ((with_reducible refine Im.call (fJ.vi hG ?_ _ _ _) ?_ (fun r hr => ?_)); omega; exact zr) | ((with_reducible refine Im.call (eu.vi hG ?_ _ _ _ _ _) ?_ (fun r hr => ?_)); omega; exact zr)
    | exact zm | exact zx | fail)
theorem jS.vi {k m : Nat} {Gv : nK} (hG : Base Gv) (hm : k + 7 ≤ m) (a0 : ByteArray) : Im (fun r => (.bool r, [])) (jS.f k a0) (bI Tryz.prog ti keep Gv m 57 [.str a0]) := by
  obtain ⟨m, rfl⟩ : ∃ m', m = m' + 1 := ⟨m - 1, by omega⟩
  rw [show bI Tryz.prog ti keep Gv (m + 1) 57 _ = _ from bC ((bq hG 57).trans rfl) Tryz.func57 (by kernel_rfl) rfl rfl]
  unfold jS.f
  repeat' first
   | (with_reducible first | exact Im.none | refine Im.ite (fun h => ?_) (fun h => ?_) | refine Im.gy ?_)
   | ((conv => arg 3; whnf); first
    | ((with_reducible refine Im.fin ?_); exact zr) | ((with_reducible refine Im.je ?_ ?_); kernel_rfl) | ((with_reducible refine Im.bH ?_ ?_); exact zq) | ((with_reducible refine Im.bJ ?_ ?_); exact zq) | ((with_reducible refine Im.bH ?_ ?_); exact zd) | ((with_reducible refine Im.must ?_ ?_); exact zd) | ((with_reducible refine Im.bJ ?_ ?_); exact zd) | (with_reducible refine Im.qc ?_) | ((with_reducible refine Im.bG ByteArray.empty ?_ ?_ ?_); exact zd; exact zd) | ((with_reducible refine Im.bG z67 ?_ ?_ ?_); exact zd; exact zd) | ((with_reducible refine Im.bG (0 : Int) ?_ ?_ ?_); exact zd; exact zd) | ((with_reducible refine Im.bG false ?_ ?_ ?_); exact zd; exact zd) | ((with_reducible refine Im.call (ae.vi hG ?_ _) ?_ (fun r hr => ?_)); omega; exact zr)
    | exact zm | exact zx | fail)
theorem bZ.vi {k m : Nat} {Gv : nK} (hG : Base Gv) (hm : k + 8 ≤ m) (l0 : List (iR)) : Im (fun r => (.bool r, [])) (bZ.f k l0) (bI Tryz.prog ti keep Gv m 17 [.sl (l0.map zA)]) := by
  obtain ⟨m, rfl⟩ : ∃ m', m = m' + 1 := ⟨m - 1, by omega⟩
  rw [show bI Tryz.prog ti keep Gv (m + 1) 17 _ = _ from bC ((bq hG 17).trans rfl) Tryz.func17 (by kernel_rfl) rfl rfl]
  unfold bZ.f
  repeat' first
   | (with_reducible first | exact Im.none | refine Im.ite (fun h => ?_) (fun h => ?_) | refine Im.gy ?_)
   | ((conv => arg 3; whnf); first
    | ((with_reducible refine Im.fin ?_); exact zr) | ((with_reducible refine Im.je ?_ ?_); kernel_rfl) | ((with_reducible refine Im.bH ?_ ?_); exact zq) | ((with_reducible refine Im.bJ ?_ ?_); exact zq) | ((with_reducible refine Im.bH ?_ ?_); exact zd) | ((with_reducible refine Im.must ?_ ?_); exact zd) | ((with_reducible refine Im.bJ ?_ ?_); exact zd) | (with_reducible refine Im.qc ?_) | ((with_reducible refine Im.bG ByteArray.empty ?_ ?_ ?_); exact zd; exact zd) | ((with_reducible refine Im.bG z67 ?_ ?_ ?_); exact zd; exact zd) | ((with_reducible refine Im.bG (0 : Int) ?_ ?_ ?_); exact zd; exact zd) | ((with_reducible refine Im.bG false ?_ ?_ ?_); exact zd; exact zd) | ((with_reducible refine Im.call (fJ.vi hG ?_ _ _ _) ?_ (fun r hr => ?_)); omega; exact zr) | ((with_reducible refine Im.call (jS.vi hG ?_ _) ?_ (fun r hr => ?_)); omega; exact zr) | ((with_reducible refine ih1 _ ⟨_, _⟩ _ ?_ ?_); exact zo; exact zr) | ((with_reducible refine Im.loop (S := fun s : List (iR) × Int => .sl (s.1.map zA) :: .un :: .un :: .int s.2 :: u25) (L := fun k s => bZ.l0 k s.1 s.2) _ ?_ ?_ _ _ ⟨_, _⟩ _ (Nat.le_refl _) zo ?_); (next => intro s; rfl); rotate_left; exact zr; intro k1 M1 ⟨x0, x3⟩ hk1 hM1 ih1; conv => arg 2; simp only [bZ.l0])
    | exact zm | exact zx | fail)
theorem jT.vi {k m : Nat} {Gv : nK} (hG : Base Gv) (hm : k + 2 ≤ m) (a0 : ByteArray) : Im (fun r => (.ow 9 1 (r.map VV.str), [])) (jT.f k a0) (bI Tryz.prog ti keep Gv m 135 [.str a0]) := by
  obtain ⟨m, rfl⟩ : ∃ m', m = m' + 1 := ⟨m - 1, by omega⟩
  rw [show bI Tryz.prog ti keep Gv (m + 1) 135 _ = _ from bC ((bq hG 135).trans rfl) Tryz.func135 (by kernel_rfl) rfl rfl]
  unfold jT.f
  repeat' first
   | (with_reducible first | exact Im.none | refine Im.ite (fun h => ?_) (fun h => ?_) | refine Im.gy ?_)
   | ((conv => arg 3; whnf); first
    | ((with_reducible refine Im.fin ?_); exact zr) | ((with_reducible refine Im.je ?_ ?_); kernel_rfl) | ((with_reducible refine Im.bH ?_ ?_); exact zq) | ((with_reducible refine Im.bJ ?_ ?_); exact zq) | ((with_reducible refine Im.bH ?_ ?_); exact zd) | ((with_reducible refine Im.must ?_ ?_); exact zd) | ((with_reducible refine Im.bJ ?_ ?_); exact zd) | (with_reducible refine Im.qc ?_) | ((with_reducible refine Im.bG ByteArray.empty ?_ ?_ ?_); exact zd; exact zd) | ((with_reducible refine Im.bG z67 ?_ ?_ ?_); exact zd; exact zd) | ((with_reducible refine Im.bG (0 : Int) ?_ ?_ ?_); exact zd; exact zd) | ((with_reducible refine Im.bG false ?_ ?_ ?_); exact zd; exact zd) | ((with_reducible refine Im.call (dF.vi hG ?_ _ _) ?_ (fun r hr => ?_)); omega; exact zr)
    | exact zm | exact zx | fail)
theorem aU.vi {k m : Nat} {Gv : nK} (hG : Base Gv) (hm : k + 9 ≤ m) (a0 : ByteArray) : Im (fun r => (.tu [.ag [.str r.1, .str r.2.1], .bool r.2.2], [])) (aU.f k a0) (bI Tryz.prog ti keep Gv m 100 [.str a0]) := by
  obtain ⟨m, rfl⟩ : ∃ m', m = m' + 1 := ⟨m - 1, by omega⟩
  rw [show bI Tryz.prog ti keep Gv (m + 1) 100 _ = _ from bC ((bq hG 100).trans rfl) Tryz.func100 (by kernel_rfl) rfl rfl]
  unfold aU.f
  repeat' first
   | ((with_reducible refine Im.nat (fun k => aU.j1 k _ _ _ _ _) _ ?_ (fun kj hkj => ?_)); rfl; (conv => arg 2; simp only [aU.j1, Bool.false_eq_true, reduceIte])) | (with_reducible first | exact Im.none | refine Im.ite (fun h => ?_) (fun h => ?_) | refine Im.gy ?_)
   | ((conv => arg 3; whnf); first
    | ((with_reducible refine Im.fin ?_); exact zr) | ((with_reducible refine Im.je ?_ ?_); kernel_rfl) | ((with_reducible refine Im.bH ?_ ?_); exact zq) | ((with_reducible refine Im.bJ ?_ ?_); exact zq) | ((with_reducible refine Im.bH ?_ ?_); exact zd) | ((with_reducible refine Im.must ?_ ?_); exact zd) | ((with_reducible refine Im.bJ ?_ ?_); exact zd) | (with_reducible refine Im.qc ?_) | ((with_reducible refine Im.bG ByteArray.empty ?_ ?_ ?_); exact zd; exact zd) | ((with_reducible refine Im.bG z67 ?_ ?_ ?_); exact zd; exact zd) | ((with_reducible refine Im.bG (0 : Int) ?_ ?_ ?_); exact zd; exact zd) | ((with_reducible refine Im.bG false ?_ ?_ ?_); exact zd; exact zd) | ((with_reducible refine Im.call (bZ.vi hG ?_ _) ?_ (fun r hr => ?_)); omega; exact zr) | ((with_reducible refine Im.call (jT.vi hG ?_ _) ?_ (fun r hr => ?_)); omega; exact zr) | ((with_reducible refine ih1 _ ⟨_, _, _, _⟩ _ ?_ ?_); exact zo; exact zr) | ((with_reducible refine Im.loop (S := fun s : List ByteArray × Int × ByteArray × ByteArray => .un :: .un :: .bx [.s (.string ⟨#[]⟩), .s (.string ⟨#[]⟩)] :: .un :: .ow 9 1 (s.1.map VV.str) :: .bx [.str s.2.2.1, .str s.2.2.2] :: .int s.2.1 :: u74) (L := fun k s => aU.l0 k s.1 s.2.1 s.2.2.1 s.2.2.2) _ ?_ ?_ _ _ ⟨_, _, _, _⟩ _ (Nat.le_refl _) zo ?_); (next => intro s; rfl); rotate_left; exact zr; intro k1 M1 ⟨x4, x6, wI, wJ⟩ hk1 hM1 ih1; conv => arg 2; simp only [aU.l0])
    | exact zm | exact zx | (exfalso; omega) | fail)
theorem aJ.vi {k m : Nat} {Gv : nK} (hG : Base Gv) (hm : k + 10 ≤ m) (a0 : ByteArray) : Im (fun r => (.tu [.ag [.str r.1, .str r.2.1], .bool r.2.2], [])) (aJ.f k a0) (bI Tryz.prog ti keep Gv m 51 [.str a0]) := by
  obtain ⟨m, rfl⟩ : ∃ m', m = m' + 1 := ⟨m - 1, by omega⟩
  rw [show bI Tryz.prog ti keep Gv (m + 1) 51 _ = _ from bC ((bq hG 51).trans rfl) Tryz.func51 (by kernel_rfl) rfl rfl]
  unfold aJ.f
  repeat' first
   | ((with_reducible refine Im.nat (fun k => aJ.j0 k _ _) _ ?_ (fun kj hkj => ?_)); rfl; (conv => arg 2; simp only [aJ.j0, Bool.false_eq_true, reduceIte])) | ((with_reducible refine Im.nat (fun k => aJ.j1 k _ _) _ ?_ (fun kj hkj => ?_)); rfl; (conv => arg 2; simp only [aJ.j1, Bool.false_eq_true, reduceIte])) | (with_reducible first | exact Im.none | refine Im.ite (fun h => ?_) (fun h => ?_) | refine Im.gy ?_)
   | ((conv => arg 3; whnf); first
    | ((with_reducible refine Im.fin ?_); exact zr) | ((with_reducible refine Im.je ?_ ?_); kernel_rfl) | ((with_reducible refine Im.bH ?_ ?_); exact zq) | ((with_reducible refine Im.bJ ?_ ?_); exact zq) | ((with_reducible refine Im.bH ?_ ?_); exact zd) | ((with_reducible refine Im.must ?_ ?_); exact zd) | ((with_reducible refine Im.bJ ?_ ?_); exact zd) | (with_reducible refine Im.qc ?_) | ((with_reducible refine Im.bG ByteArray.empty ?_ ?_ ?_); exact zd; exact zd) | ((with_reducible refine Im.bG z67 ?_ ?_ ?_); exact zd; exact zd) | ((with_reducible refine Im.bG (0 : Int) ?_ ?_ ?_); exact zd; exact zd) | ((with_reducible refine Im.bG false ?_ ?_ ?_); exact zd; exact zd) | ((with_reducible refine Im.call (ae.vi hG ?_ _) ?_ (fun r hr => ?_)); omega; exact zr) | ((with_reducible refine Im.call (fE.vi hG ?_ _) ?_ (fun r hr => ?_)); omega; exact zr) | ((with_reducible refine Im.call (jW.vi hG ?_ _ _ _ _) ?_ (fun r hr => ?_)); omega; exact zr) | ((with_reducible refine Im.call (iI.vi hG ?_ _ _ _ _ _ _) ?_ (fun r hr => ?_)); omega; exact zr) | ((with_reducible refine Im.call (ak.vi hG ?_ _) ?_ (fun r hr => ?_)); omega; exact zr) | ((with_reducible refine Im.call (aU.vi hG ?_ _) ?_ (fun r hr => ?_)); omega; exact zr)
    | exact zm | exact zx | fail)
theorem lq.vi {m : Nat} {Gv : nK} (hG : Base Gv) (hm : 1 ≤ m) (a0 : Int) : Im (fun r => (.bool r, [])) (lq.f a0) (bI Tryz.prog ti keep Gv m 180 [.byte a0]) := by
  obtain ⟨m, rfl⟩ : ∃ m', m = m' + 1 := ⟨m - 1, by omega⟩
  rw [show bI Tryz.prog ti keep Gv (m + 1) 180 _ = _ from bC ((bq hG 180).trans rfl) Tryz.func180 (by kernel_rfl) rfl rfl]
  unfold lq.f
  repeat' first
   | (with_reducible first | exact Im.none | refine Im.ite (fun h => ?_) (fun h => ?_) | refine Im.gy ?_)
   | ((conv => arg 3; whnf); first
    | ((with_reducible refine Im.fin ?_); exact zr) | ((with_reducible refine Im.je ?_ ?_); kernel_rfl) | ((with_reducible refine Im.bH ?_ ?_); exact zq) | ((with_reducible refine Im.bJ ?_ ?_); exact zq) | ((with_reducible refine Im.bH ?_ ?_); exact zd) | ((with_reducible refine Im.must ?_ ?_); exact zd) | ((with_reducible refine Im.bJ ?_ ?_); exact zd) | (with_reducible refine Im.qc ?_) | ((with_reducible refine Im.bG ByteArray.empty ?_ ?_ ?_); exact zd; exact zd) | ((with_reducible refine Im.bG z67 ?_ ?_ ?_); exact zd; exact zd) | ((with_reducible refine Im.bG (0 : Int) ?_ ?_ ?_); exact zd; exact zd) | ((with_reducible refine Im.bG false ?_ ?_ ?_); exact zd; exact zd)
    | exact zm | exact zx | fail)
theorem qw.vi {m : Nat} {Gv : nK} (hG : Base Gv) (hm : 1 ≤ m) (a0 : Int) : Im (fun r => (.bool r, [])) (qw.f a0) (bI Tryz.prog ti keep Gv m 189 [.byte a0]) := by
  obtain ⟨m, rfl⟩ : ∃ m', m = m' + 1 := ⟨m - 1, by omega⟩
  rw [show bI Tryz.prog ti keep Gv (m + 1) 189 _ = _ from bC ((bq hG 189).trans rfl) Tryz.func189 (by kernel_rfl) rfl rfl]
  unfold qw.f
  repeat' first
   | (with_reducible first | exact Im.none | refine Im.ite (fun h => ?_) (fun h => ?_) | refine Im.gy ?_)
   | ((conv => arg 3; whnf); first
    | ((with_reducible refine Im.fin ?_); exact zr) | ((with_reducible refine Im.je ?_ ?_); kernel_rfl) | ((with_reducible refine Im.bH ?_ ?_); exact zq) | ((with_reducible refine Im.bJ ?_ ?_); exact zq) | ((with_reducible refine Im.bH ?_ ?_); exact zd) | ((with_reducible refine Im.must ?_ ?_); exact zd) | ((with_reducible refine Im.bJ ?_ ?_); exact zd) | (with_reducible refine Im.qc ?_) | ((with_reducible refine Im.bG ByteArray.empty ?_ ?_ ?_); exact zd; exact zd) | ((with_reducible refine Im.bG z67 ?_ ?_ ?_); exact zd; exact zd) | ((with_reducible refine Im.bG (0 : Int) ?_ ?_ ?_); exact zd; exact zd) | ((with_reducible refine Im.bG false ?_ ?_ ?_); exact zd; exact zd)
    | exact zm | exact zx | fail)
theorem pW.vi {m : Nat} {Gv : nK} (hG : Base Gv) (hm : 2 ≤ m) (a0 : Int) : Im (fun r => (.bool r, [])) (pW.f a0) (bI Tryz.prog ti keep Gv m 179 [.byte a0]) := by
  obtain ⟨m, rfl⟩ : ∃ m', m = m' + 1 := ⟨m - 1, by omega⟩
  rw [show bI Tryz.prog ti keep Gv (m + 1) 179 _ = _ from bC ((bq hG 179).trans rfl) Tryz.func179 (by kernel_rfl) rfl rfl]
  unfold pW.f
  repeat' first
   | (with_reducible first | exact Im.none | refine Im.ite (fun h => ?_) (fun h => ?_) | refine Im.gy ?_)
   | ((conv => arg 3; whnf); first
    | ((with_reducible refine Im.fin ?_); exact zr) | ((with_reducible refine Im.je ?_ ?_); kernel_rfl) | ((with_reducible refine Im.bH ?_ ?_); exact zq) | ((with_reducible refine Im.bJ ?_ ?_); exact zq) | ((with_reducible refine Im.bH ?_ ?_); exact zd) | ((with_reducible refine Im.must ?_ ?_); exact zd) | ((with_reducible refine Im.bJ ?_ ?_); exact zd) | (with_reducible refine Im.qc ?_) | ((with_reducible refine Im.bG ByteArray.empty ?_ ?_ ?_); exact zd; exact zd) | ((with_reducible refine Im.bG z67 ?_ ?_ ?_); exact zd; exact zd) | ((with_reducible refine Im.bG (0 : Int) ?_ ?_ ?_); exact zd; exact zd) | ((with_reducible refine Im.bG false ?_ ?_ ?_); exact zd; exact zd) | ((with_reducible refine Im.call (qw.vi hG ?_ _) ?_ (fun r hr => ?_)); omega; exact zr)
    | exact zm | exact zx | fail)
theorem lM.vi {m : Nat} {Gv : nK} (hG : Base Gv) (hm : 3 ≤ m) (a0 : Int) : Im (fun r => (.bool r, [])) (lM.f a0) (bI Tryz.prog ti keep Gv m 178 [.byte a0]) := by
  obtain ⟨m, rfl⟩ : ∃ m', m = m' + 1 := ⟨m - 1, by omega⟩
  rw [show bI Tryz.prog ti keep Gv (m + 1) 178 _ = _ from bC ((bq hG 178).trans rfl) Tryz.func178 (by kernel_rfl) rfl rfl]
  unfold lM.f
  repeat' first
   | (with_reducible first | exact Im.none | refine Im.ite (fun h => ?_) (fun h => ?_) | refine Im.gy ?_)
   | ((conv => arg 3; whnf); first
    | ((with_reducible refine Im.fin ?_); exact zr) | ((with_reducible refine Im.je ?_ ?_); kernel_rfl) | ((with_reducible refine Im.bH ?_ ?_); exact zq) | ((with_reducible refine Im.bJ ?_ ?_); exact zq) | ((with_reducible refine Im.bH ?_ ?_); exact zd) | ((with_reducible refine Im.must ?_ ?_); exact zd) | ((with_reducible refine Im.bJ ?_ ?_); exact zd) | (with_reducible refine Im.qc ?_) | ((with_reducible refine Im.bG ByteArray.empty ?_ ?_ ?_); exact zd; exact zd) | ((with_reducible refine Im.bG z67 ?_ ?_ ?_); exact zd; exact zd) | ((with_reducible refine Im.bG (0 : Int) ?_ ?_ ?_); exact zd; exact zd) | ((with_reducible refine Im.bG false ?_ ?_ ?_); exact zd; exact zd) | ((with_reducible refine Im.call (lq.vi hG ?_ _) ?_ (fun r hr => ?_)); omega; exact zr) | ((with_reducible refine Im.call (pW.vi hG ?_ _) ?_ (fun r hr => ?_)); omega; exact zr)
    | exact zm | exact zx | fail)
theorem aT.vi {k m : Nat} {Gv : nK} (hG : Base Gv) (hm : k + 4 ≤ m) (a0 : ByteArray) : Im (fun r => (.bool r, [])) (aT.f k a0) (bI Tryz.prog ti keep Gv m 177 [.str a0, .cl 178 []]) := by
  obtain ⟨m, rfl⟩ : ∃ m', m = m' + 1 := ⟨m - 1, by omega⟩
  rw [show bI Tryz.prog ti keep Gv (m + 1) 177 _ = _ from bC ((bq hG 177).trans rfl) Tryz.func177 (by kernel_rfl) rfl rfl]
  unfold aT.f
  repeat' first
   | (with_reducible first | exact Im.none | refine Im.ite (fun h => ?_) (fun h => ?_) | refine Im.gy ?_)
   | ((conv => arg 3; whnf); first
    | ((with_reducible refine Im.fin ?_); exact zr) | ((with_reducible refine Im.je ?_ ?_); kernel_rfl) | ((with_reducible refine Im.bH ?_ ?_); exact zq) | ((with_reducible refine Im.bJ ?_ ?_); exact zq) | ((with_reducible refine Im.bH ?_ ?_); exact zd) | ((with_reducible refine Im.must ?_ ?_); exact zd) | ((with_reducible refine Im.bJ ?_ ?_); exact zd) | (with_reducible refine Im.qc ?_) | ((with_reducible refine Im.bG ByteArray.empty ?_ ?_ ?_); exact zd; exact zd) | ((with_reducible refine Im.bG z67 ?_ ?_ ?_); exact zd; exact zd) | ((with_reducible refine Im.bG (0 : Int) ?_ ?_ ?_); exact zd; exact zd) | ((with_reducible refine Im.bG false ?_ ?_ ?_); exact zd; exact zd) | ((with_reducible refine Im.call (lM.vi hG ?_ _) ?_ (fun r hr => ?_)); omega; exact zr) | ((with_reducible refine ih1 _ ⟨_, _, _⟩ _ ?_ ?_); exact zo; exact zr) | ((with_reducible refine Im.loop (S := fun s : ByteArray × Int × Int => .str s.1 :: .cl 178 [] :: .un :: .un :: .un :: .un :: .un :: .int s.2.1 :: .int s.2.2 :: u9) (L := fun k s => aT.l0 k s.1 s.2.1 s.2.2) _ ?_ ?_ _ _ ⟨_, _, _⟩ _ (Nat.le_refl _) zo ?_); (next => intro s; rfl); rotate_left; exact zr; intro k1 M1 ⟨x0, x7, x8⟩ hk1 hM1 ih1; conv => arg 2; simp only [aT.l0])
    | exact zm | exact zx | fail)
theorem ai.vi {k m : Nat} {Gv : nK} (hG : Base Gv) (hm : k + 2 ≤ m) (a0 : ByteArray) : Im (fun r => (.bool r, [])) (ai.f k a0) (bI Tryz.prog ti keep Gv m 177 [.str a0, .cl 180 []]) := by
  obtain ⟨m, rfl⟩ : ∃ m', m = m' + 1 := ⟨m - 1, by omega⟩
  rw [show bI Tryz.prog ti keep Gv (m + 1) 177 _ = _ from bC ((bq hG 177).trans rfl) Tryz.func177 (by kernel_rfl) rfl rfl]
  unfold ai.f
  repeat' first
   | (with_reducible first | exact Im.none | refine Im.ite (fun h => ?_) (fun h => ?_) | refine Im.gy ?_)
   | ((conv => arg 3; whnf); first
    | ((with_reducible refine Im.fin ?_); exact zr) | ((with_reducible refine Im.je ?_ ?_); kernel_rfl) | ((with_reducible refine Im.bH ?_ ?_); exact zq) | ((with_reducible refine Im.bJ ?_ ?_); exact zq) | ((with_reducible refine Im.bH ?_ ?_); exact zd) | ((with_reducible refine Im.must ?_ ?_); exact zd) | ((with_reducible refine Im.bJ ?_ ?_); exact zd) | (with_reducible refine Im.qc ?_) | ((with_reducible refine Im.bG ByteArray.empty ?_ ?_ ?_); exact zd; exact zd) | ((with_reducible refine Im.bG z67 ?_ ?_ ?_); exact zd; exact zd) | ((with_reducible refine Im.bG (0 : Int) ?_ ?_ ?_); exact zd; exact zd) | ((with_reducible refine Im.bG false ?_ ?_ ?_); exact zd; exact zd) | ((with_reducible refine Im.call (lq.vi hG ?_ _) ?_ (fun r hr => ?_)); omega; exact zr) | ((with_reducible refine ih1 _ ⟨_, _, _⟩ _ ?_ ?_); exact zo; exact zr) | ((with_reducible refine Im.loop (S := fun s : ByteArray × Int × Int => .str s.1 :: .cl 180 [] :: .un :: .un :: .un :: .un :: .un :: .int s.2.1 :: .int s.2.2 :: u9) (L := fun k s => ai.l0 k s.1 s.2.1 s.2.2) _ ?_ ?_ _ _ ⟨_, _, _⟩ _ (Nat.le_refl _) zo ?_); (next => intro s; rfl); rotate_left; exact zr; intro k1 M1 ⟨x0, x7, x8⟩ hk1 hM1 ih1; conv => arg 2; simp only [ai.l0])
    | exact zm | exact zx | fail)
theorem gU.vi {k m : Nat} {Gv : nK} (hG : Base Gv) (hm : k + 3 ≤ m) (a0 : ByteArray) : Im (fun r => (.bool r, [])) (gU.f k a0) (bI Tryz.prog ti keep Gv m 181 [.str a0]) := by
  obtain ⟨m, rfl⟩ : ∃ m', m = m' + 1 := ⟨m - 1, by omega⟩
  rw [show bI Tryz.prog ti keep Gv (m + 1) 181 _ = _ from bC ((bq hG 181).trans rfl) Tryz.func181 (by kernel_rfl) rfl rfl]
  unfold gU.f
  repeat' first
   | (with_reducible first | exact Im.none | refine Im.ite (fun h => ?_) (fun h => ?_) | refine Im.gy ?_)
   | ((conv => arg 3; whnf); first
    | ((with_reducible refine Im.fin ?_); exact zr) | ((with_reducible refine Im.je ?_ ?_); kernel_rfl) | ((with_reducible refine Im.bH ?_ ?_); exact zq) | ((with_reducible refine Im.bJ ?_ ?_); exact zq) | ((with_reducible refine Im.bH ?_ ?_); exact zd) | ((with_reducible refine Im.must ?_ ?_); exact zd) | ((with_reducible refine Im.bJ ?_ ?_); exact zd) | (with_reducible refine Im.qc ?_) | ((with_reducible refine Im.bG ByteArray.empty ?_ ?_ ?_); exact zd; exact zd) | ((with_reducible refine Im.bG z67 ?_ ?_ ?_); exact zd; exact zd) | ((with_reducible refine Im.bG (0 : Int) ?_ ?_ ?_); exact zd; exact zd) | ((with_reducible refine Im.bG false ?_ ?_ ?_); exact zd; exact zd) | ((with_reducible refine Im.call (ai.vi hG ?_ _) ?_ (fun r hr => ?_)); omega; exact zr)
    | exact zm | exact zx | fail)
theorem iJ.vi {m : Nat} {Gv : nK} (hG : Base Gv) (hm : 1 ≤ m) (a0 : Int) (a1 : Int) (a2 : Int) : Im (fun r => (.bool r, [])) (iJ.f a0 a1 a2) (bI Tryz.prog ti keep Gv m 56 [.int a0, .int a1, .int a2]) := by
  obtain ⟨m, rfl⟩ : ∃ m', m = m' + 1 := ⟨m - 1, by omega⟩
  rw [show bI Tryz.prog ti keep Gv (m + 1) 56 _ = _ from bC ((bq hG 56).trans rfl) Tryz.func56 (by kernel_rfl) rfl rfl]
  unfold iJ.f
  repeat' first
   | (with_reducible first | exact Im.none | refine Im.ite (fun h => ?_) (fun h => ?_) | refine Im.gy ?_)
   | ((conv => arg 3; whnf); first
    | ((with_reducible refine Im.fin ?_); exact zr) | ((with_reducible refine Im.je ?_ ?_); kernel_rfl) | ((with_reducible refine Im.bH ?_ ?_); exact zq) | ((with_reducible refine Im.bJ ?_ ?_); exact zq) | ((with_reducible refine Im.bH ?_ ?_); exact zd) | ((with_reducible refine Im.must ?_ ?_); exact zd) | ((with_reducible refine Im.bJ ?_ ?_); exact zd) | (with_reducible refine Im.qc ?_) | ((with_reducible refine Im.bG ByteArray.empty ?_ ?_ ?_); exact zd; exact zd) | ((with_reducible refine Im.bG z67 ?_ ?_ ?_); exact zd; exact zd) | ((with_reducible refine Im.bG (0 : Int) ?_ ?_ ?_); exact zd; exact zd) | ((with_reducible refine Im.bG false ?_ ?_ ?_); exact zd; exact zd)
    | exact zm | exact zx | fail)
theorem gm.vi {m : Nat} {Gv : nK} (hG : Base Gv) (hm : 1 ≤ m) (a0 : Int) (a1 : Int) : Im (fun r => (.int r, [])) (gm.f a0 a1) (bI Tryz.prog ti keep Gv m 143 [.int a0, .int a1]) := by
  obtain ⟨m, rfl⟩ : ∃ m', m = m' + 1 := ⟨m - 1, by omega⟩
  rw [show bI Tryz.prog ti keep Gv (m + 1) 143 _ = _ from bC ((bq hG 143).trans rfl) Tryz.func143 (by kernel_rfl) rfl rfl]
  unfold gm.f
  repeat' first
   | (with_reducible first | exact Im.none | refine Im.ite (fun h => ?_) (fun h => ?_) | refine Im.gy ?_)
   | ((conv => arg 3; whnf); first
    | ((with_reducible refine Im.fin ?_); exact zr) | ((with_reducible refine Im.je ?_ ?_); kernel_rfl) | ((with_reducible refine Im.bH ?_ ?_); exact zq) | ((with_reducible refine Im.bJ ?_ ?_); exact zq) | ((with_reducible refine Im.bH ?_ ?_); exact zd) | ((with_reducible refine Im.must ?_ ?_); exact zd) | ((with_reducible refine Im.bJ ?_ ?_); exact zd) | (with_reducible refine Im.qc ?_) | ((with_reducible refine Im.bG ByteArray.empty ?_ ?_ ?_); exact zd; exact zd) | ((with_reducible refine Im.bG z67 ?_ ?_ ?_); exact zd; exact zd) | ((with_reducible refine Im.bG (0 : Int) ?_ ?_ ?_); exact zd; exact zd) | ((with_reducible refine Im.bG false ?_ ?_ ?_); exact zd; exact zd)
    | exact zm | exact zx | fail)
theorem stringslite_HasPrefix.vi {m : Nat} {Gv : nK} (hG : Base Gv) (hm : 1 ≤ m) (a0 : ByteArray) (a1 : ByteArray) : Im (fun r => (.bool r, [])) (stringslite_HasPrefix.f a0 a1) (bI Tryz.prog ti keep Gv m 97 [.str a0, .str a1]) := by
  obtain ⟨m, rfl⟩ : ∃ m', m = m' + 1 := ⟨m - 1, by omega⟩
  rw [show bI Tryz.prog ti keep Gv (m + 1) 97 _ = _ from bC ((bq hG 97).trans rfl) Tryz.func97 (by kernel_rfl) rfl rfl]
  unfold stringslite_HasPrefix.f
  repeat' first
   | (with_reducible first | exact Im.none | refine Im.ite (fun h => ?_) (fun h => ?_) | refine Im.gy ?_)
   | ((conv => arg 3; whnf); first
    | ((with_reducible refine Im.fin ?_); exact zr) | ((with_reducible refine Im.je ?_ ?_); kernel_rfl) | ((with_reducible refine Im.bH ?_ ?_); exact zq) | ((with_reducible refine Im.bJ ?_ ?_); exact zq) | ((with_reducible refine Im.bH ?_ ?_); exact zd) | ((with_reducible refine Im.must ?_ ?_); exact zd) | ((with_reducible refine Im.bJ ?_ ?_); exact zd) | (with_reducible refine Im.qc ?_) | ((with_reducible refine Im.bG ByteArray.empty ?_ ?_ ?_); exact zd; exact zd) | ((with_reducible refine Im.bG z67 ?_ ?_ ?_); exact zd; exact zd) | ((with_reducible refine Im.bG (0 : Int) ?_ ?_ ?_); exact zd; exact zd) | ((with_reducible refine Im.bG false ?_ ?_ ?_); exact zd; exact zd)
    | exact zm | exact zx | fail)
theorem stringslite_CutPrefix.vi {m : Nat} {Gv : nK} (hG : Base Gv) (hm : 2 ≤ m) (a0 : ByteArray) (a1 : ByteArray) : Im (fun r => (.tu [.str r.1, .bool r.2], [])) (stringslite_CutPrefix.f a0 a1) (bI Tryz.prog ti keep Gv m 133 [.str a0, .str a1]) := by
  obtain ⟨m, rfl⟩ : ∃ m', m = m' + 1 := ⟨m - 1, by omega⟩
  rw [show bI Tryz.prog ti keep Gv (m + 1) 133 _ = _ from bC ((bq hG 133).trans rfl) Tryz.func133 (by kernel_rfl) rfl rfl]
  unfold stringslite_CutPrefix.f
  repeat' first
   | (with_reducible first | exact Im.none | refine Im.ite (fun h => ?_) (fun h => ?_) | refine Im.gy ?_)
   | ((conv => arg 3; whnf); first
    | ((with_reducible refine Im.fin ?_); exact zr) | ((with_reducible refine Im.je ?_ ?_); kernel_rfl) | ((with_reducible refine Im.bH ?_ ?_); exact zq) | ((with_reducible refine Im.bJ ?_ ?_); exact zq) | ((with_reducible refine Im.bH ?_ ?_); exact zd) | ((with_reducible refine Im.must ?_ ?_); exact zd) | ((with_reducible refine Im.bJ ?_ ?_); exact zd) | (with_reducible refine Im.qc ?_) | ((with_reducible refine Im.bG ByteArray.empty ?_ ?_ ?_); exact zd; exact zd) | ((with_reducible refine Im.bG z67 ?_ ?_ ?_); exact zd; exact zd) | ((with_reducible refine Im.bG (0 : Int) ?_ ?_ ?_); exact zd; exact zd) | ((with_reducible refine Im.bG false ?_ ?_ ?_); exact zd; exact zd) | ((with_reducible refine Im.call (stringslite_HasPrefix.vi hG ?_ _ _) ?_ (fun r hr => ?_)); omega; exact zr)
    | exact zm | exact zx | fail)
theorem strings_CutPrefix.vi {m : Nat} {Gv : nK} (hG : Base Gv) (hm : 3 ≤ m) (a0 : ByteArray) (a1 : ByteArray) : Im (fun r => (.tu [.str r.1, .bool r.2], [])) (strings_CutPrefix.f a0 a1) (bI Tryz.prog ti keep Gv m 93 [.str a0, .str a1]) := by
  obtain ⟨m, rfl⟩ : ∃ m', m = m' + 1 := ⟨m - 1, by omega⟩
  rw [show bI Tryz.prog ti keep Gv (m + 1) 93 _ = _ from bC ((bq hG 93).trans rfl) Tryz.func93 (by kernel_rfl) rfl rfl]
  unfold strings_CutPrefix.f
  repeat' first
   | (with_reducible first | exact Im.none | refine Im.ite (fun h => ?_) (fun h => ?_) | refine Im.gy ?_)
   | ((conv => arg 3; whnf); first
    | ((with_reducible refine Im.fin ?_); exact zr) | ((with_reducible refine Im.je ?_ ?_); kernel_rfl) | ((with_reducible refine Im.bH ?_ ?_); exact zq) | ((with_reducible refine Im.bJ ?_ ?_); exact zq) | ((with_reducible refine Im.bH ?_ ?_); exact zd) | ((with_reducible refine Im.must ?_ ?_); exact zd) | ((with_reducible refine Im.bJ ?_ ?_); exact zd) | (with_reducible refine Im.qc ?_) | ((with_reducible refine Im.bG ByteArray.empty ?_ ?_ ?_); exact zd; exact zd) | ((with_reducible refine Im.bG z67 ?_ ?_ ?_); exact zd; exact zd) | ((with_reducible refine Im.bG (0 : Int) ?_ ?_ ?_); exact zd; exact zd) | ((with_reducible refine Im.bG false ?_ ?_ ?_); exact zd; exact zd) | ((with_reducible refine Im.call (stringslite_CutPrefix.vi hG ?_ _ _) ?_ (fun r hr => ?_)); omega; exact zr)
    | exact zm | exact zx | fail)
theorem xG.vi {m : Nat} {Gv : nK} (hG : Base Gv) (hm : 1 ≤ m) (l0 : List Int) : Im (fun r => (.bool r, [])) (xG.f l0) (bI Tryz.prog ti keep Gv m 7 [.sl (l0.map VV.byte)]) := by
  obtain ⟨m, rfl⟩ : ∃ m', m = m' + 1 := ⟨m - 1, by omega⟩
  rw [show bI Tryz.prog ti keep Gv (m + 1) 7 _ = _ from bC ((bq hG 7).trans rfl) Tryz.func7 (by kernel_rfl) rfl rfl]
  unfold xG.f
  repeat' first
   | (with_reducible first | exact Im.none | refine Im.ite (fun h => ?_) (fun h => ?_) | refine Im.gy ?_)
   | ((conv => arg 3; whnf); first
    | ((with_reducible refine Im.fin ?_); exact zr) | ((with_reducible refine Im.je ?_ ?_); kernel_rfl) | ((with_reducible refine Im.bH ?_ ?_); exact zq) | ((with_reducible refine Im.bJ ?_ ?_); exact zq) | ((with_reducible refine Im.bH ?_ ?_); exact zd) | ((with_reducible refine Im.must ?_ ?_); exact zd) | ((with_reducible refine Im.bJ ?_ ?_); exact zd) | (with_reducible refine Im.qc ?_) | ((with_reducible refine Im.bG ByteArray.empty ?_ ?_ ?_); exact zd; exact zd) | ((with_reducible refine Im.bG z67 ?_ ?_ ?_); exact zd; exact zd) | ((with_reducible refine Im.bG (0 : Int) ?_ ?_ ?_); exact zd; exact zd) | ((with_reducible refine Im.bG false ?_ ?_ ?_); exact zd; exact zd)
    | exact zm | exact zx | fail)
theorem qP.vi {k m : Nat} {Gv : nK} (hG : Base Gv) (hm : k + 8 ≤ m) (a0 : ByteArray) : Im (fun r => (.ow 67 2 (r.map zA), [])) (qP.f k a0) (bI Tryz.prog ti keep Gv m 20 [.str a0]) := by
  obtain ⟨m, rfl⟩ : ∃ m', m = m' + 1 := ⟨m - 1, by omega⟩
  rw [show bI Tryz.prog ti keep Gv (m + 1) 20 _ = _ from bC ((bq hG 20).trans rfl) Tryz.func20 (by kernel_rfl) rfl rfl]
  unfold qP.f
  repeat' first
   | (with_reducible first | exact Im.none | refine Im.ite (fun h => ?_) (fun h => ?_) | refine Im.gy ?_)
   | ((conv => arg 3; whnf); first
    | ((with_reducible refine Im.fin ?_); exact zr) | ((with_reducible refine Im.je ?_ ?_); kernel_rfl) | ((with_reducible refine Im.bH ?_ ?_); exact zq) | ((with_reducible refine Im.bJ ?_ ?_); exact zq) | ((with_reducible refine Im.bH ?_ ?_); exact zd) | ((with_reducible refine Im.must ?_ ?_); exact zd) | ((with_reducible refine Im.bJ ?_ ?_); exact zd) | (with_reducible refine Im.qc ?_) | ((with_reducible refine Im.bG ByteArray.empty ?_ ?_ ?_); exact zd; exact zd) | ((with_reducible refine Im.bG z67 ?_ ?_ ?_); exact zd; exact zd) | ((with_reducible refine Im.bG (0 : Int) ?_ ?_ ?_); exact zd; exact zd) | ((with_reducible refine Im.bG false ?_ ?_ ?_); exact zd; exact zd) | ((with_reducible refine Im.call (fE.vi hG ?_ _) ?_ (fun r hr => ?_)); omega; exact zr)
    | exact zm | exact zx | fail)
theorem bF.vi {k m : Nat} {Gv : nK} (hG : Base Gv) (hm : k + 9 ≤ m) (l0 : List (iR)) : Im (fun r => (.str r, [])) (bF.f k l0) (bI Tryz.prog ti keep Gv m 18 [.sl (l0.map zA)]) := by
  obtain ⟨m, rfl⟩ : ∃ m', m = m' + 1 := ⟨m - 1, by omega⟩
  rw [show bI Tryz.prog ti keep Gv (m + 1) 18 _ = _ from bC ((bq hG 18).trans rfl) Tryz.func18 (by kernel_rfl) rfl rfl]
  unfold bF.f
  repeat' first
   | ((with_reducible refine Im.nat (fun k => bF.j1 k _ _ _) _ ?_ (fun kj hkj => ?_)); rfl; (conv => arg 2; simp only [bF.j1, Bool.false_eq_true, reduceIte])) | ((with_reducible refine Im.nat (fun k => bF.j2 k _ _ _ _) _ ?_ (fun kj hkj => ?_)); rfl; (conv => arg 2; simp only [bF.j2, Bool.false_eq_true, reduceIte])) | (with_reducible first | exact Im.none | refine Im.ite (fun h => ?_) (fun h => ?_) | refine Im.gy ?_)
   | ((conv => arg 3; whnf); first
    | ((with_reducible refine Im.fin ?_); exact zr) | ((with_reducible refine Im.je ?_ ?_); kernel_rfl) | ((with_reducible refine Im.bH ?_ ?_); exact zq) | ((with_reducible refine Im.bJ ?_ ?_); exact zq) | ((with_reducible refine Im.bH ?_ ?_); exact zd) | ((with_reducible refine Im.must ?_ ?_); exact zd) | ((with_reducible refine Im.bJ ?_ ?_); exact zd) | (with_reducible refine Im.qc ?_) | ((with_reducible refine Im.bG ByteArray.empty ?_ ?_ ?_); exact zd; exact zd) | ((with_reducible refine Im.bG z67 ?_ ?_ ?_); exact zd; exact zd) | ((with_reducible refine Im.bG (0 : Int) ?_ ?_ ?_); exact zd; exact zd) | ((with_reducible refine Im.bG false ?_ ?_ ?_); exact zd; exact zd) | ((with_reducible refine Im.call (bZ.vi hG ?_ _) ?_ (fun r hr => ?_)); omega; exact zr) | ((with_reducible refine ih1 _ ⟨_, _, _⟩ _ ?_ ?_); exact zo; exact zr) | ((with_reducible refine Im.loop (S := fun s : List (iR) × ByteArray × Int => .sl (s.1.map zA) :: .un :: .un :: .str s.2.1 :: .int s.2.2 :: u76) (L := fun k s => bF.l0 k s.1 s.2.1 s.2.2) _ ?_ ?_ _ _ ⟨_, _, _⟩ _ (Nat.le_refl _) zo ?_); (next => intro s; rfl); rotate_left; exact zr; intro k1 M1 ⟨x0, x3, x4⟩ hk1 hM1 ih1; conv => arg 2; simp only [bF.l0])
    | exact zm | exact zx | fail)
theorem aj.vi {k m : Nat} {Gv : nK} (hG : Base Gv) (hm : k + 1 ≤ m) (a0 : ByteArray) : Im (fun r => (.ow 9 1 (r.map VV.str), [])) (aj.f k a0) (bI Tryz.prog ti keep Gv m 50 [.str a0]) := by
  obtain ⟨m, rfl⟩ : ∃ m', m = m' + 1 := ⟨m - 1, by omega⟩
  rw [show bI Tryz.prog ti keep Gv (m + 1) 50 _ = _ from bC ((bq hG 50).trans rfl) Tryz.func50 (by kernel_rfl) rfl rfl]
  unfold aj.f
  repeat' first
   | (with_reducible first | exact Im.none | refine Im.ite (fun h => ?_) (fun h => ?_) | refine Im.gy ?_)
   | ((conv => arg 3; whnf); first
    | ((with_reducible refine Im.fin ?_); exact zr) | ((with_reducible refine Im.je ?_ ?_); kernel_rfl) | ((with_reducible refine Im.bH ?_ ?_); exact zq) | ((with_reducible refine Im.bJ ?_ ?_); exact zq) | ((with_reducible refine Im.bH ?_ ?_); exact zd) | ((with_reducible refine Im.must ?_ ?_); exact zd) | ((with_reducible refine Im.bJ ?_ ?_); exact zd) | (with_reducible refine Im.qc ?_) | ((with_reducible refine Im.bG ByteArray.empty ?_ ?_ ?_); exact zd; exact zd) | ((with_reducible refine Im.bG z67 ?_ ?_ ?_); exact zd; exact zd) | ((with_reducible refine Im.bG (0 : Int) ?_ ?_ ?_); exact zd; exact zd) | ((with_reducible refine Im.bG false ?_ ?_ ?_); exact zd; exact zd) | ((with_reducible refine ih1 _ ⟨_, _, _, _⟩ _ ?_ ?_); exact zo; exact zr) | ((with_reducible refine Im.loop (S := fun s : ByteArray × List ByteArray × Int × Int => .str s.1 :: .un :: .un :: .ow 9 1 (s.2.1.map VV.str) :: .int s.2.2.1 :: .int s.2.2.2 :: u34) (L := fun k s => aj.l0 k s.1 s.2.1 s.2.2.1 s.2.2.2) _ ?_ ?_ _ _ ⟨_, _, _, _⟩ _ (Nat.le_refl _) zo ?_); (next => intro s; rfl); rotate_left; exact zr; intro k1 M1 ⟨x0, x3, x4, x5⟩ hk1 hM1 ih1; conv => arg 2; simp only [aj.l0])
    | exact zm | exact zx | fail)
theorem aH.vi {k m : Nat} {Gv : nK} (hG : Base Gv) (hm : k + 11 ≤ m) (a0 : ByteArray) : Im (fun r => (.tu [.sl (r.1.map zA), .bool r.2], [])) (aH.f k a0) (bI Tryz.prog ti keep Gv m 13 [.str a0]) := by
  obtain ⟨m, rfl⟩ : ∃ m', m = m' + 1 := ⟨m - 1, by omega⟩
  rw [show bI Tryz.prog ti keep Gv (m + 1) 13 _ = _ from bC ((bq hG 13).trans rfl) Tryz.func13 (by kernel_rfl) rfl rfl]
  unfold aH.f
  repeat' first
   | ((with_reducible refine Im.nat (fun k => aH.j0 k _ _ _) _ ?_ (fun kj hkj => ?_)); rfl; (conv => arg 2; simp only [aH.j0, Bool.false_eq_true, reduceIte])) | (with_reducible first | exact Im.none | refine Im.ite (fun h => ?_) (fun h => ?_) | refine Im.gy ?_)
   | ((conv => arg 3; whnf); first
    | ((with_reducible refine Im.fin ?_); exact zr) | ((with_reducible refine Im.je ?_ ?_); kernel_rfl) | ((with_reducible refine Im.bH ?_ ?_); exact zq) | ((with_reducible refine Im.bJ ?_ ?_); exact zq) | ((with_reducible refine Im.bH ?_ ?_); exact zd) | ((with_reducible refine Im.must ?_ ?_); exact zd) | ((with_reducible refine Im.bJ ?_ ?_); exact zd) | (with_reducible refine Im.qc ?_) | ((with_reducible refine Im.bG ByteArray.empty ?_ ?_ ?_); exact zd; exact zd) | ((with_reducible refine Im.bG z67 ?_ ?_ ?_); exact zd; exact zd) | ((with_reducible refine Im.bG (0 : Int) ?_ ?_ ?_); exact zd; exact zd) | ((with_reducible refine Im.bG false ?_ ?_ ?_); exact zd; exact zd) | ((with_reducible refine Im.call (aJ.vi hG ?_ _) ?_ (fun r hr => ?_)); omega; exact zr) | ((with_reducible refine Im.call (aj.vi hG ?_ _) ?_ (fun r hr => ?_)); omega; exact zr) | ((with_reducible refine ih1 _ ⟨_, _, _⟩ _ ?_ ?_); exact zo; exact zr) | ((with_reducible refine Im.loop (S := fun s : List (iR) × List ByteArray × Int => .un :: .un :: .un :: .un :: .ow 67 2 (s.1.map zA) :: .ow 9 1 (s.2.1.map VV.str) :: .int s.2.2 :: u36) (L := fun k s => aH.l0 k s.1 s.2.1 s.2.2) _ ?_ ?_ _ _ ⟨_, _, _⟩ _ (Nat.le_refl _) zo ?_); (next => intro s; rfl); rotate_left; exact zr; intro k1 M1 ⟨x4, x5, x6⟩ hk1 hM1 ih1; conv => arg 2; simp only [aH.l0])
    | exact zm | exact zx | fail)
end Go.Proofs.YtieohddolkeegaaGreatDoor.VI

end
section
namespace Go.Proofs.YtieohddolkeegaaGreatDoor.VI
open Go Go.RowKit Go.Proofs.YtieohddolkeegaaGreatDoor.G Go.Proofs.aA.aZ
set_option maxRecDepth 100000
set_option maxHeartbeats 16000000
theorem strconv_Itoa.vi {m : Nat} {Gv : nK} (hG : Base Gv) (hm : 1 ≤ m) (a0 : Int) : Im (fun r => (.str r, [])) (strconv_Itoa.f a0) (bI Tryz.prog ti keep Gv m 176 [.int a0]) := by
  obtain ⟨m, rfl⟩ : ∃ m', m = m' + 1 := ⟨m - 1, by omega⟩
  rw [show bI Tryz.prog ti keep Gv (m + 1) 176 _ = _ from iw ((bq hG 176).trans rfl)]
  intro r h
  rw [show strconv_Itoa.gv [.int a0] = (strconv_Itoa.f a0).map (fun r => (.str r, [])) from rfl, h]
  rfl
theorem dm.vi {m : Nat} {Gv : nK} (hG : Base Gv) (hm : 1 ≤ m) (a0 : ByteArray) : Im (fun r => (.int r, [])) (dm.f a0) (bI Tryz.prog ti keep Gv m 104 [.str a0]) := by
  obtain ⟨m, rfl⟩ : ∃ m', m = m' + 1 := ⟨m - 1, by omega⟩
  rw [show bI Tryz.prog ti keep Gv (m + 1) 104 _ = _ from iw ((bq hG 104).trans rfl)]
  intro r h
  rw [show dm.gv [.str a0] = (dm.f a0).map (fun r => (.int r, [])) from rfl, h]
  rfl
theorem strings_Join.vi {m : Nat} {Gv : nK} (hG : Base Gv) (hm : 1 ≤ m) (l0 : List ByteArray) (a1 : ByteArray) : Im (fun r => (.str r, [])) (strings_Join.f l0 a1) (bI Tryz.prog ti keep Gv m 44 [.sl (l0.map VV.str), .str a1]) := by
  obtain ⟨m, rfl⟩ : ∃ m', m = m' + 1 := ⟨m - 1, by omega⟩
  rw [show bI Tryz.prog ti keep Gv (m + 1) 44 _ = _ from iw ((bq hG 44).trans rfl)]
  intro r h
  show jY (unS (l0.map VV.str)) _ = _
  rw [NL]
  show (strings_Join.f l0 a1).map _ = _
  rw [h]
  rfl
theorem strings_Cut.vi {m : Nat} {Gv : nK} (hG : Base Gv) (hm : 1 ≤ m) (a0 : ByteArray) (a1 : ByteArray) : Im (fun r => (.tu [.str r.1, .str r.2.1, .bool r.2.2], [])) (strings_Cut.f a0 a1) (bI Tryz.prog ti keep Gv m 94 [.str a0, .str a1]) := by
  obtain ⟨m, rfl⟩ : ∃ m', m = m' + 1 := ⟨m - 1, by omega⟩
  rw [show bI Tryz.prog ti keep Gv (m + 1) 94 _ = _ from iw ((bq hG 94).trans rfl)]
  intro r h
  rw [show strings_Cut.gv [.str a0, .str a1] = (strings_Cut.f a0 a1).map (fun r => (.tu [.str r.1, .str r.2.1, .bool r.2.2], [])) from rfl, h]
  rfl
theorem strings_Split.vi {m : Nat} {Gv : nK} (hG : Base Gv) (hm : 1 ≤ m) (a0 : ByteArray) (a1 : ByteArray) : Im (fun r => (.ow 9 1 (r.map VV.str), [])) (strings_Split.f a0 a1) (bI Tryz.prog ti keep Gv m 47 [.str a0, .str a1]) := by
  obtain ⟨m, rfl⟩ : ∃ m', m = m' + 1 := ⟨m - 1, by omega⟩
  rw [show bI Tryz.prog ti keep Gv (m + 1) 47 _ = _ from iw ((bq hG 47).trans rfl)]
  intro r h
  rw [show strings_Split.gv [.str a0, .str a1] = (strings_Split.f a0 a1).map (fun r => (.ow 9 1 (r.map VV.str), [])) from rfl, h]
  rfl
theorem bT.vi {m : Nat} {Gv : nK} (hG : Base Gv) (hm : 1 ≤ m) (l0 : List ByteArray) : Im (fun r => (.ow 9 1 (r.map VV.str), [])) (bT.f l0) (bI Tryz.prog ti keep Gv m 75 [.sl (l0.map VV.str)]) := by
  obtain ⟨m, rfl⟩ : ∃ m', m = m' + 1 := ⟨m - 1, by omega⟩
  rw [show bI Tryz.prog ti keep Gv (m + 1) 75 _ = _ from iw ((bq hG 75).trans rfl)]
  intro r h
  show jY (unS (l0.map VV.str)) _ = _
  rw [NL]
  show (bT.f l0).map _ = _
  rw [h]
  rfl
theorem strings_Compare.vi {m : Nat} {Gv : nK} (hG : Base Gv) (hm : 1 ≤ m) (a0 : ByteArray) (a1 : ByteArray) : Im (fun r => (.int r, [])) (strings_Compare.f a0 a1) (bI Tryz.prog ti keep Gv m 183 [.str a0, .str a1]) := by
  obtain ⟨m, rfl⟩ : ∃ m', m = m' + 1 := ⟨m - 1, by omega⟩
  rw [show bI Tryz.prog ti keep Gv (m + 1) 183 _ = _ from iw ((bq hG 183).trans rfl)]
  intro r h
  rw [show strings_Compare.gv [.str a0, .str a1] = (strings_Compare.f a0 a1).map (fun r => (.int r, [])) from rfl, h]
  rfl
theorem eQ.vi {m : Nat} {Gv : nK} (hG : Base Gv) (hm : 1 ≤ m) (a0 : ByteArray) (a1 : ByteArray) : Im (fun r => (.str r, [])) (eQ.f a0 a1) (bI Tryz.prog ti keep Gv m 182 [.str a0, .str a1]) := by
  obtain ⟨m, rfl⟩ : ∃ m', m = m' + 1 := ⟨m - 1, by omega⟩
  rw [show bI Tryz.prog ti keep Gv (m + 1) 182 _ = _ from iw ((bq hG 182).trans rfl)]
  intro r h
  rw [show eQ.gv [.str a0, .str a1] = (eQ.f a0 a1).map (fun r => (.str r, [])) from rfl, h]
  rfl
theorem strings_HasPrefix.vi {m : Nat} {Gv : nK} (hG : Base Gv) (hm : 1 ≤ m) (a0 : ByteArray) (a1 : ByteArray) : Im (fun r => (.bool r, [])) (strings_HasPrefix.f a0 a1) (bI Tryz.prog ti keep Gv m 49 [.str a0, .str a1]) := by
  obtain ⟨m, rfl⟩ : ∃ m', m = m' + 1 := ⟨m - 1, by omega⟩
  rw [show bI Tryz.prog ti keep Gv (m + 1) 49 _ = _ from iw ((bq hG 49).trans rfl)]
  intro r h
  rw [show strings_HasPrefix.gv [.str a0, .str a1] = (strings_HasPrefix.f a0 a1).map (fun r => (.bool r, [])) from rfl, h]
  rfl
end Go.Proofs.YtieohddolkeegaaGreatDoor.VI

end
section
namespace Go.Proofs.YtieohddolkeegaaGreatDoor.VI
open Go Go.RowKit Go.Proofs.YtieohddolkeegaaGreatDoor.G Go.Proofs.aA.aZ
set_option maxRecDepth 100000
set_option maxHeartbeats 16000000
set_option linter.unusedVariables false
set_option linter.unusedSimpArgs false
theorem af.vi {k m : Nat} {Gv : nK} (hG : Base Gv) (SH : Gv 96 = some af.gv) (hm : k + 1 ≤ m) (a0 : ByteArray) : Im (fun r => (.tu [.ag [.str r.1, .str r.2.1], .bool r.2.2], [])) (af.f k a0) (bI Tryz.prog ti keep Gv m 96 [.str a0]) := by
  obtain ⟨m, rfl⟩ : ∃ m', m = m' + 1 := ⟨m - 1, by omega⟩
  rw [show bI Tryz.prog ti keep Gv (m + 1) 96 _ = _ from iw SH]
  intro r h
  rw [show af.gv [.str a0] = (yP (fun k => af.f k a0)).map (fun r => (.tu [.ag [.str r.1, .str r.2.1], .bool r.2.2], [])) from rfl, rq (fun k => af.mono _ k) h]
  rfl
theorem bD.vi {k m : Nat} {Gv : nK} (hG : Base Gv) (hL19 : Gv 19 = some bD.gv) (hm : k + 1 ≤ m) (l0 : List (iR)) (l1 : List (iR)) : Im (fun r => (.bool r, [])) (bD.f k l0 l1) (bI Tryz.prog ti keep Gv m 19 [.sl (l0.map zA), .sl (l1.map zA)]) := by
  obtain ⟨m, rfl⟩ : ∃ m', m = m' + 1 := ⟨m - 1, by omega⟩
  rw [show bI Tryz.prog ti keep Gv (m + 1) 19 _ = _ from iw hL19]
  intro r h
  show jY (NM (l0.map zA)) _ = _
  rw [JA]
  show jY (NM (l1.map zA)) _ = _
  rw [JA]
  show (yP (fun k => bD.f k l0 l1)).map _ = _
  rw [rq (fun k => bD.mono _ _ k) h]
  rfl
theorem eF.vi {k m : Nat} {Gv : nK} (hG : Base Gv) (hL14 : Gv 14 = some eF.gv) (hm : k + 1 ≤ m) (l0 : List Int) : Im (fun r => (.str r, [])) (eF.f k l0) (bI Tryz.prog ti keep Gv m 14 [.sl (l0.map VV.byte)]) := by
  obtain ⟨m, rfl⟩ : ∃ m', m = m' + 1 := ⟨m - 1, by omega⟩
  rw [show bI Tryz.prog ti keep Gv (m + 1) 14 _ = _ from iw hL14]
  intro r h
  show jY (KW (l0.map VV.byte)) _ = _
  rw [Ey]
  show (yP (fun k => eF.f k l0)).map _ = _
  rw [rq (fun k => eF.mono _ k) h]
  rfl
theorem fZ.vi {k m : Nat} {Gv : nK} (hG : Base Gv) (hL21 : Gv 21 = some fZ.gv) (hm : k + 1 ≤ m) (l0 : List Int) : Im (fun r => (.tu [.str r.1, .sl (r.2.map zA)], [])) (fZ.f k l0) (bI Tryz.prog ti keep Gv m 21 [.sl (l0.map VV.byte)]) := by
  obtain ⟨m, rfl⟩ : ∃ m', m = m' + 1 := ⟨m - 1, by omega⟩
  rw [show bI Tryz.prog ti keep Gv (m + 1) 21 _ = _ from iw hL21]
  intro r h
  show jY (KW (l0.map VV.byte)) _ = _
  rw [Ey]
  show (yP (fun k => fZ.f k l0)).map _ = _
  rw [rq (fun k => fZ.mono _ k) h]
  rfl
theorem dL.vi {k m : Nat} {Gv : nK} (hG : Base Gv) (hL8 : Gv 8 = some dL.gv) (hm : k + 1 ≤ m) (l0 : List Int) : Im (fun r => (.sl (r.map zA), [])) (dL.f k l0) (bI Tryz.prog ti keep Gv m 8 [.sl (l0.map VV.byte)]) := by
  obtain ⟨m, rfl⟩ : ∃ m', m = m' + 1 := ⟨m - 1, by omega⟩
  rw [show bI Tryz.prog ti keep Gv (m + 1) 8 _ = _ from iw hL8]
  intro r h
  show jY (KW (l0.map VV.byte)) _ = _
  rw [Ey]
  show (yP (fun k => dL.f k l0)).map _ = _
  rw [rq (fun k => dL.mono _ k) h]
  rfl
theorem dB.vi {k m : Nat} {Gv : nK} (hG : Base Gv) (hL9 : Gv 9 = some dB.gv) (hm : k + 1 ≤ m) (l0 : List Int) : Im (fun r => (.sl (r.map zA), [])) (dB.f k l0) (bI Tryz.prog ti keep Gv m 9 [.sl (l0.map VV.byte)]) := by
  obtain ⟨m, rfl⟩ : ∃ m', m = m' + 1 := ⟨m - 1, by omega⟩
  rw [show bI Tryz.prog ti keep Gv (m + 1) 9 _ = _ from iw hL9]
  intro r h
  show jY (KW (l0.map VV.byte)) _ = _
  rw [Ey]
  show (yP (fun k => dB.f k l0)).map _ = _
  rw [rq (fun k => dB.mono _ k) h]
  rfl
theorem dD.vi {k m : Nat} {Gv : nK} (hG : Base Gv) (hL11 : Gv 11 = some dD.gv) (hm : k + 1 ≤ m) (l0 : List Int) : Im (fun r => (.str r, [])) (dD.f k l0) (bI Tryz.prog ti keep Gv m 11 [.sl (l0.map VV.byte)]) := by
  obtain ⟨m, rfl⟩ : ∃ m', m = m' + 1 := ⟨m - 1, by omega⟩
  rw [show bI Tryz.prog ti keep Gv (m + 1) 11 _ = _ from iw hL11]
  intro r h
  show jY (KW (l0.map VV.byte)) _ = _
  rw [Ey]
  show (yP (fun k => dD.f k l0)).map _ = _
  rw [rq (fun k => dD.mono _ k) h]
  rfl
end Go.Proofs.YtieohddolkeegaaGreatDoor.VI

end
section
namespace Go.Proofs.YtieohddolkeegaaGreatDoor.VI
open Go Go.RowKit Go.Proofs.YtieohddolkeegaaGreatDoor.G Go.Proofs.aA.aZ
set_option maxRecDepth 100000
set_option maxHeartbeats 16000000
attribute [local irreducible] bite jY bG
theorem iP.vi {m : Nat} {Gv : nK} (hG : Base Gv) (hm : 2 ≤ m) (a0 : Int) : Im (fun r => (.str r, [])) (iP.f a0) (bI Tryz.prog ti keep Gv m 140 [.int a0]) := by
  obtain ⟨m, rfl⟩ : ∃ m', m = m' + 1 := ⟨m - 1, by omega⟩
  rw [show bI Tryz.prog ti keep Gv (m + 1) 140 _ = _ from bC ((bq hG 140).trans rfl) Tryz.func140 (by kernel_rfl) rfl rfl]
  unfold iP.f
  repeat' first
   | (with_reducible first | exact Im.none | refine Im.ite (fun h => ?_) (fun h => ?_) | refine Im.gy ?_)
   | ((conv => arg 3; whnf); first
    | ((with_reducible refine Im.fin ?_); exact zr) | ((with_reducible refine Im.je ?_ ?_); kernel_rfl) | ((with_reducible refine Im.bH ?_ ?_); exact zq) | ((with_reducible refine Im.bJ ?_ ?_); exact zq) | ((with_reducible refine Im.bH ?_ ?_); exact zd) | ((with_reducible refine Im.must ?_ ?_); exact zd) | ((with_reducible refine Im.bJ ?_ ?_); exact zd) | (with_reducible refine Im.qc ?_) | ((with_reducible refine Im.bG ByteArray.empty ?_ ?_ ?_); exact zd; exact zd) | ((with_reducible refine Im.bG z67 ?_ ?_ ?_); exact zd; exact zd) | ((with_reducible refine Im.bG (0 : Int) ?_ ?_ ?_); exact zd; exact zd) | ((with_reducible refine Im.bG false ?_ ?_ ?_); exact zd; exact zd) | ((with_reducible refine Im.call (strconv_Itoa.vi hG ?_ _) ?_ (fun r hr => ?_)); omega; exact zr)
    | exact zm | exact zx | fail)
theorem ay.vi {k m : Nat} {Gv : nK} (hG : Base Gv) (hm : k + 5 ≤ m) (iY : Int) (iq : Int) (jK : Int) (jE : List ByteArray) : Im (fun r => (.bool r, [])) (ay.f k iY iq jK jE) (bI Tryz.prog ti keep Gv m 141 [.ag [.int iY, .int iq, .int jK, .sl (jE.map VV.str)]]) := by
  obtain ⟨m, rfl⟩ : ∃ m', m = m' + 1 := ⟨m - 1, by omega⟩
  rw [show bI Tryz.prog ti keep Gv (m + 1) 141 _ = _ from bC ((bq hG 141).trans rfl) Tryz.func141 (by kernel_rfl) rfl rfl]
  unfold ay.f
  repeat' first
   | (with_reducible first | exact Im.none | refine Im.ite (fun h => ?_) (fun h => ?_) | refine Im.gy ?_)
   | ((conv => arg 3; whnf); first
    | ((with_reducible refine Im.fin ?_); exact zr) | ((with_reducible refine Im.je ?_ ?_); kernel_rfl) | ((with_reducible refine Im.bH ?_ ?_); exact zq) | ((with_reducible refine Im.bJ ?_ ?_); exact zq) | ((with_reducible refine Im.bH ?_ ?_); exact zd) | ((with_reducible refine Im.must ?_ ?_); exact zd) | ((with_reducible refine Im.bJ ?_ ?_); exact zd) | (with_reducible refine Im.qc ?_) | ((with_reducible refine Im.bG ByteArray.empty ?_ ?_ ?_); exact zd; exact zd) | ((with_reducible refine Im.bG z67 ?_ ?_ ?_); exact zd; exact zd) | ((with_reducible refine Im.bG (0 : Int) ?_ ?_ ?_); exact zd; exact zd) | ((with_reducible refine Im.bG false ?_ ?_ ?_); exact zd; exact zd) | ((with_reducible refine Im.call (dm.vi hG ?_ _) ?_ (fun r hr => ?_)); omega; exact zr) | ((with_reducible refine Im.call (aT.vi hG ?_ _) ?_ (fun r hr => ?_)); omega; exact zr) | ((with_reducible refine Im.call (gU.vi hG ?_ _) ?_ (fun r hr => ?_)); omega; exact zr) | ((with_reducible refine Im.call (iJ.vi hG ?_ _ _ _) ?_ (fun r hr => ?_)); omega; exact zr) | ((with_reducible refine ih1 _ ⟨_, _, _, _, _, _, _⟩ _ ?_ ?_); exact zo; exact zr) | ((with_reducible refine ih2 _ ⟨_, _, _, _, _, _, _⟩ _ ?_ ?_); exact zo; exact zr) | ((with_reducible refine Im.loop (S := fun s : List Int × Int × Int × Int × Int × Int × List ByteArray => .un :: .bx [.int s.2.2.2.1, .int s.2.2.2.2.1, .int s.2.2.2.2.2.1, .sl (s.2.2.2.2.2.2.map VV.str)] :: .un :: .un :: .un :: .un :: .un :: .un :: .un :: .un :: .un :: .un :: .un :: .ow 3 1 (s.1.map VV.int) :: .int s.2.1 :: .int s.2.2.1 :: u37) (L := fun k s => ay.l0 k s.1 s.2.1 s.2.2.1 s.2.2.2.1 s.2.2.2.2.1 s.2.2.2.2.2.1 s.2.2.2.2.2.2) _ ?_ ?_ _ _ ⟨_, _, _, _, _, _, _⟩ _ (Nat.le_refl _) zo ?_); (next => intro s; rfl); rotate_left; exact zr; intro k1 M1 ⟨Fe, x14, x15, xx, yA, yB, sN⟩ hk1 hM1 ih1; conv => arg 2; simp only [ay.l0]) | ((with_reducible refine Im.loop (S := fun s : List ByteArray × Int × Int × Int × Int × Int × List ByteArray => .un :: .bx [.int s.2.2.2.1, .int s.2.2.2.2.1, .int s.2.2.2.2.2.1, .sl (s.2.2.2.2.2.2.map VV.str)] :: .un :: .un :: .un :: .un :: .un :: .un :: .un :: .un :: .un :: .un :: .un :: .un :: .un :: .un :: .un :: .un :: .un :: .un :: .un :: .un :: .un :: .un :: .sl (s.1.map VV.str) :: .int s.2.1 :: .int s.2.2.1 :: u26) (L := fun k s => ay.l1 k s.1 s.2.1 s.2.2.1 s.2.2.2.1 s.2.2.2.2.1 s.2.2.2.2.2.1 s.2.2.2.2.2.2) _ ?_ ?_ _ _ ⟨_, _, _, _, _, _, _⟩ _ (Nat.le_refl _) zo ?_); (next => intro s; rfl); rotate_left; exact zr; intro k2 M2 ⟨x24, x25, OB, xx, yA, yB, sN⟩ hk2 hM2 ih2; conv => arg 2; simp only [ay.l1])
    | exact zm | exact zx | fail)
theorem bU.vi {k m : Nat} {Gv : nK} (hG : Base Gv) (hm : k + 6 ≤ m) (iY : Int) (iq : Int) (jK : Int) (jE : List ByteArray) : Im (fun r => (.str r, [])) (bU.f k iY iq jK jE) (bI Tryz.prog ti keep Gv m 105 [.ag [.int iY, .int iq, .int jK, .sl (jE.map VV.str)]]) := by
  obtain ⟨m, rfl⟩ : ∃ m', m = m' + 1 := ⟨m - 1, by omega⟩
  rw [show bI Tryz.prog ti keep Gv (m + 1) 105 _ = _ from bC ((bq hG 105).trans rfl) Tryz.func105 (by kernel_rfl) rfl rfl]
  unfold bU.f
  repeat' first
   | (with_reducible first | exact Im.none | refine Im.ite (fun h => ?_) (fun h => ?_) | refine Im.gy ?_)
   | ((conv => arg 3; whnf); first
    | ((with_reducible refine Im.fin ?_); exact zr) | ((with_reducible refine Im.je ?_ ?_); kernel_rfl) | ((with_reducible refine Im.bH ?_ ?_); exact zq) | ((with_reducible refine Im.bJ ?_ ?_); exact zq) | ((with_reducible refine Im.bH ?_ ?_); exact zd) | ((with_reducible refine Im.must ?_ ?_); exact zd) | ((with_reducible refine Im.bJ ?_ ?_); exact zd) | (with_reducible refine Im.qc ?_) | ((with_reducible refine Im.bG ByteArray.empty ?_ ?_ ?_); exact zd; exact zd) | ((with_reducible refine Im.bG z67 ?_ ?_ ?_); exact zd; exact zd) | ((with_reducible refine Im.bG (0 : Int) ?_ ?_ ?_); exact zd; exact zd) | ((with_reducible refine Im.bG false ?_ ?_ ?_); exact zd; exact zd) | ((with_reducible refine Im.call (iP.vi hG ?_ _) ?_ (fun r hr => ?_)); omega; exact zr) | ((with_reducible refine Im.call (ay.vi hG ?_ _ _ _ _) ?_ (fun r hr => ?_)); omega; exact zr) | ((with_reducible refine Im.call (strings_Join.vi hG ?_ _ _) ?_ (fun r hr => ?_)); omega; exact zr)
    | exact zm | exact zx | fail)
theorem dM.vi {k m : Nat} {Gv : nK} (hG : Base Gv) (hm : k + 7 ≤ m) (a0 : Int) (a1 : Int) (a2 : Int) : Im (fun r => (.str r, [])) (dM.f k a0 a1 a2) (bI Tryz.prog ti keep Gv m 95 [.int a0, .int a1, .int a2]) := by
  obtain ⟨m, rfl⟩ : ∃ m', m = m' + 1 := ⟨m - 1, by omega⟩
  rw [show bI Tryz.prog ti keep Gv (m + 1) 95 _ = _ from bC ((bq hG 95).trans rfl) Tryz.func95 (by kernel_rfl) rfl rfl]
  unfold dM.f
  repeat' first
   | (with_reducible first | exact Im.none | refine Im.ite (fun h => ?_) (fun h => ?_) | refine Im.gy ?_)
   | ((conv => arg 3; whnf); first
    | ((with_reducible refine Im.fin ?_); exact zr) | ((with_reducible refine Im.je ?_ ?_); kernel_rfl) | ((with_reducible refine Im.bH ?_ ?_); exact zq) | ((with_reducible refine Im.bJ ?_ ?_); exact zq) | ((with_reducible refine Im.bH ?_ ?_); exact zd) | ((with_reducible refine Im.must ?_ ?_); exact zd) | ((with_reducible refine Im.bJ ?_ ?_); exact zd) | (with_reducible refine Im.qc ?_) | ((with_reducible refine Im.bG ByteArray.empty ?_ ?_ ?_); exact zd; exact zd) | ((with_reducible refine Im.bG z67 ?_ ?_ ?_); exact zd; exact zd) | ((with_reducible refine Im.bG (0 : Int) ?_ ?_ ?_); exact zd; exact zd) | ((with_reducible refine Im.bG false ?_ ?_ ?_); exact zd; exact zd) | ((with_reducible refine Im.call (bU.vi hG ?_ _ _ _ _) ?_ (fun r hr => ?_)); omega; exact zr)
    | exact zm | exact zx | fail)
theorem fC.vi {k m : Nat} {Gv : nK} (hG : Base Gv) (hm : k + 7 ≤ m) (a0 : ByteArray) : Im (fun r => (.tu [.ag [.int r.1, .int r.2.1, .int r.2.2.1, .sl (r.2.2.2.1.map VV.str)], .bool r.2.2.2.2], [])) (fC.f k a0) (bI Tryz.prog ti keep Gv m 53 [.str a0]) := by
  obtain ⟨m, rfl⟩ : ∃ m', m = m' + 1 := ⟨m - 1, by omega⟩
  rw [show bI Tryz.prog ti keep Gv (m + 1) 53 _ = _ from bC ((bq hG 53).trans rfl) Tryz.func53 (by kernel_rfl) rfl rfl]
  unfold fC.f
  repeat' first
   | (with_reducible first | exact Im.none | refine Im.ite (fun h => ?_) (fun h => ?_) | refine Im.gy ?_)
   | ((conv => arg 3; whnf); first
    | ((with_reducible refine Im.fin ?_); exact zr) | ((with_reducible refine Im.je ?_ ?_); kernel_rfl) | ((with_reducible refine Im.bH ?_ ?_); exact zq) | ((with_reducible refine Im.bJ ?_ ?_); exact zq) | ((with_reducible refine Im.bH ?_ ?_); exact zd) | ((with_reducible refine Im.must ?_ ?_); exact zd) | ((with_reducible refine Im.bJ ?_ ?_); exact zd) | (with_reducible refine Im.qc ?_) | ((with_reducible refine Im.bG ByteArray.empty ?_ ?_ ?_); exact zd; exact zd) | ((with_reducible refine Im.bG z67 ?_ ?_ ?_); exact zd; exact zd) | ((with_reducible refine Im.bG (0 : Int) ?_ ?_ ?_); exact zd; exact zd) | ((with_reducible refine Im.bG false ?_ ?_ ?_); exact zd; exact zd) | ((with_reducible refine Im.call (dm.vi hG ?_ _) ?_ (fun r hr => ?_)); omega; exact zr) | ((with_reducible refine Im.call (bU.vi hG ?_ _ _ _ _) ?_ (fun r hr => ?_)); omega; exact zr) | ((with_reducible refine Im.call (strings_Cut.vi hG ?_ _ _) ?_ (fun r hr => ?_)); omega; exact zr) | ((with_reducible refine Im.call (strings_Split.vi hG ?_ _ _) ?_ (fun r hr => ?_)); omega; exact zr)
    | exact zm | exact zx | fail)
theorem nM.vi {k m : Nat} {Gv : nK} (hG : Base Gv) (hm : k + 8 ≤ m) (iY : Int) (iq : Int) (jK : Int) (jE : List ByteArray) : Im (fun r => (.ag [.str r.1, .str r.2], [])) (nM.f k iY iq jK jE) (bI Tryz.prog ti keep Gv m 54 [.ag [.int iY, .int iq, .int jK, .sl (jE.map VV.str)]]) := by
  obtain ⟨m, rfl⟩ : ∃ m', m = m' + 1 := ⟨m - 1, by omega⟩
  rw [show bI Tryz.prog ti keep Gv (m + 1) 54 _ = _ from bC ((bq hG 54).trans rfl) Tryz.func54 (by kernel_rfl) rfl rfl]
  unfold nM.f
  repeat' first
   | (with_reducible first | exact Im.none | refine Im.ite (fun h => ?_) (fun h => ?_) | refine Im.gy ?_)
   | ((conv => arg 3; whnf); first
    | ((with_reducible refine Im.fin ?_); exact zr) | ((with_reducible refine Im.je ?_ ?_); kernel_rfl) | ((with_reducible refine Im.bH ?_ ?_); exact zq) | ((with_reducible refine Im.bJ ?_ ?_); exact zq) | ((with_reducible refine Im.bH ?_ ?_); exact zd) | ((with_reducible refine Im.must ?_ ?_); exact zd) | ((with_reducible refine Im.bJ ?_ ?_); exact zd) | (with_reducible refine Im.qc ?_) | ((with_reducible refine Im.bG ByteArray.empty ?_ ?_ ?_); exact zd; exact zd) | ((with_reducible refine Im.bG z67 ?_ ?_ ?_); exact zd; exact zd) | ((with_reducible refine Im.bG (0 : Int) ?_ ?_ ?_); exact zd; exact zd) | ((with_reducible refine Im.bG false ?_ ?_ ?_); exact zd; exact zd) | ((with_reducible refine Im.call (bU.vi hG ?_ _ _ _ _) ?_ (fun r hr => ?_)); omega; exact zr) | ((with_reducible refine Im.call (dM.vi hG ?_ _ _ _) ?_ (fun r hr => ?_)); omega; exact zr) | ((with_reducible refine Im.call (bT.vi hG ?_ _) ?_ (fun r hr => ?_)); omega; exact zr)
    | exact zm | exact zx | fail)
theorem qO.vi {k m : Nat} {Gv : nK} (hG : Base Gv) (hm : k + 9 ≤ m) (a0 : ByteArray) : Im (fun r => (.ow 67 2 (r.map zA), [])) (qO.f k a0) (bI Tryz.prog ti keep Gv m 15 [.str a0]) := by
  obtain ⟨m, rfl⟩ : ∃ m', m = m' + 1 := ⟨m - 1, by omega⟩
  rw [show bI Tryz.prog ti keep Gv (m + 1) 15 _ = _ from bC ((bq hG 15).trans rfl) Tryz.func15 (by kernel_rfl) rfl rfl]
  unfold qO.f
  repeat' first
   | (with_reducible first | exact Im.none | refine Im.ite (fun h => ?_) (fun h => ?_) | refine Im.gy ?_)
   | ((conv => arg 3; whnf); first
    | ((with_reducible refine Im.fin ?_); exact zr) | ((with_reducible refine Im.je ?_ ?_); kernel_rfl) | ((with_reducible refine Im.bH ?_ ?_); exact zq) | ((with_reducible refine Im.bJ ?_ ?_); exact zq) | ((with_reducible refine Im.bH ?_ ?_); exact zd) | ((with_reducible refine Im.must ?_ ?_); exact zd) | ((with_reducible refine Im.bJ ?_ ?_); exact zd) | (with_reducible refine Im.qc ?_) | ((with_reducible refine Im.bG ByteArray.empty ?_ ?_ ?_); exact zd; exact zd) | ((with_reducible refine Im.bG z67 ?_ ?_ ?_); exact zd; exact zd) | ((with_reducible refine Im.bG (0 : Int) ?_ ?_ ?_); exact zd; exact zd) | ((with_reducible refine Im.bG false ?_ ?_ ?_); exact zd; exact zd) | ((with_reducible refine Im.call (fC.vi hG ?_ _) ?_ (fun r hr => ?_)); omega; exact zr) | ((with_reducible refine Im.call (nM.vi hG ?_ _ _ _ _) ?_ (fun r hr => ?_)); omega; exact zr)
    | exact zm | exact zx | fail)
theorem fF.vi {k m : Nat} {Gv : nK} (hG : Base Gv) (hm : k + 8 ≤ m) (a0 : ByteArray) : Im (fun r => (.bool r, [])) (fF.f k a0) (bI Tryz.prog ti keep Gv m 55 [.str a0]) := by
  obtain ⟨m, rfl⟩ : ∃ m', m = m' + 1 := ⟨m - 1, by omega⟩
  rw [show bI Tryz.prog ti keep Gv (m + 1) 55 _ = _ from bC ((bq hG 55).trans rfl) Tryz.func55 (by kernel_rfl) rfl rfl]
  unfold fF.f
  repeat' first
   | (with_reducible first | exact Im.none | refine Im.ite (fun h => ?_) (fun h => ?_) | refine Im.gy ?_)
   | ((conv => arg 3; whnf); first
    | ((with_reducible refine Im.fin ?_); exact zr) | ((with_reducible refine Im.je ?_ ?_); kernel_rfl) | ((with_reducible refine Im.bH ?_ ?_); exact zq) | ((with_reducible refine Im.bJ ?_ ?_); exact zq) | ((with_reducible refine Im.bH ?_ ?_); exact zd) | ((with_reducible refine Im.must ?_ ?_); exact zd) | ((with_reducible refine Im.bJ ?_ ?_); exact zd) | (with_reducible refine Im.qc ?_) | ((with_reducible refine Im.bG ByteArray.empty ?_ ?_ ?_); exact zd; exact zd) | ((with_reducible refine Im.bG z67 ?_ ?_ ?_); exact zd; exact zd) | ((with_reducible refine Im.bG (0 : Int) ?_ ?_ ?_); exact zd; exact zd) | ((with_reducible refine Im.bG false ?_ ?_ ?_); exact zd; exact zd) | ((with_reducible refine Im.call (fC.vi hG ?_ _) ?_ (fun r hr => ?_)); omega; exact zr)
    | exact zm | exact zx | fail)
theorem fB.vi {k m : Nat} {Gv : nK} (hG : Base Gv) (hm : k + 9 ≤ m) (l0 : List (iR)) : Im (fun r => (.bool r, [])) (fB.f k l0) (bI Tryz.prog ti keep Gv m 16 [.sl (l0.map zA)]) := by
  obtain ⟨m, rfl⟩ : ∃ m', m = m' + 1 := ⟨m - 1, by omega⟩
  rw [show bI Tryz.prog ti keep Gv (m + 1) 16 _ = _ from bC ((bq hG 16).trans rfl) Tryz.func16 (by kernel_rfl) rfl rfl]
  unfold fB.f
  repeat' first
   | (with_reducible first | exact Im.none | refine Im.ite (fun h => ?_) (fun h => ?_) | refine Im.gy ?_)
   | ((conv => arg 3; whnf); first
    | ((with_reducible refine Im.fin ?_); exact zr) | ((with_reducible refine Im.je ?_ ?_); kernel_rfl) | ((with_reducible refine Im.bH ?_ ?_); exact zq) | ((with_reducible refine Im.bJ ?_ ?_); exact zq) | ((with_reducible refine Im.bH ?_ ?_); exact zd) | ((with_reducible refine Im.must ?_ ?_); exact zd) | ((with_reducible refine Im.bJ ?_ ?_); exact zd) | (with_reducible refine Im.qc ?_) | ((with_reducible refine Im.bG ByteArray.empty ?_ ?_ ?_); exact zd; exact zd) | ((with_reducible refine Im.bG z67 ?_ ?_ ?_); exact zd; exact zd) | ((with_reducible refine Im.bG (0 : Int) ?_ ?_ ?_); exact zd; exact zd) | ((with_reducible refine Im.bG false ?_ ?_ ?_); exact zd; exact zd) | ((with_reducible refine Im.call (fF.vi hG ?_ _) ?_ (fun r hr => ?_)); omega; exact zr) | ((with_reducible refine Im.call (iJ.vi hG ?_ _ _ _) ?_ (fun r hr => ?_)); omega; exact zr) | ((with_reducible refine ih1 _ ⟨_, _, _, _⟩ _ ?_ ?_); exact zo; exact zr) | ((with_reducible refine Im.loop (S := fun s : List (iR) × List (iR) × Int × Int => .sl (s.1.map zA) :: .un :: .un :: .un :: .un :: .sl (s.2.1.map zA) :: .int s.2.2.1 :: .int s.2.2.2 :: u27) (L := fun k s => fB.l0 k s.1 s.2.1 s.2.2.1 s.2.2.2) _ ?_ ?_ _ _ ⟨_, _, _, _⟩ _ (Nat.le_refl _) zo ?_); (next => intro s; rfl); rotate_left; exact zr; intro k1 M1 ⟨x0, x5, x6, x7⟩ hk1 hM1 ih1; conv => arg 2; simp only [fB.l0])
    | exact zm | exact zx | fail)
theorem fO.vi {k m : Nat} {Gv : nK} (hG : Base Gv) (hm : k + 4 ≤ m) (a0 : ByteArray) (a1 : ByteArray) : Im (fun r => (.int r, [])) (fO.f k a0 a1) (bI Tryz.prog ti keep Gv m 144 [.str a0, .str a1]) := by
  obtain ⟨m, rfl⟩ : ∃ m', m = m' + 1 := ⟨m - 1, by omega⟩
  rw [show bI Tryz.prog ti keep Gv (m + 1) 144 _ = _ from bC ((bq hG 144).trans rfl) Tryz.func144 (by kernel_rfl) rfl rfl]
  unfold fO.f
  repeat' first
   | ((with_reducible refine Im.nat (fun k => fO.j0 k _ _ _ _ _) _ ?_ (fun kj hkj => ?_)); rfl; (conv => arg 2; simp only [fO.j0, Bool.false_eq_true, reduceIte])) | (with_reducible first | exact Im.none | refine Im.ite (fun h => ?_) (fun h => ?_) | refine Im.gy ?_)
   | ((conv => arg 3; whnf); first
    | ((with_reducible refine Im.fin ?_); exact zr) | ((with_reducible refine Im.je ?_ ?_); kernel_rfl) | ((with_reducible refine Im.bH ?_ ?_); exact zq) | ((with_reducible refine Im.bJ ?_ ?_); exact zq) | ((with_reducible refine Im.bH ?_ ?_); exact zd) | ((with_reducible refine Im.must ?_ ?_); exact zd) | ((with_reducible refine Im.bJ ?_ ?_); exact zd) | (with_reducible refine Im.qc ?_) | ((with_reducible refine Im.bG ByteArray.empty ?_ ?_ ?_); exact zd; exact zd) | ((with_reducible refine Im.bG z67 ?_ ?_ ?_); exact zd; exact zd) | ((with_reducible refine Im.bG (0 : Int) ?_ ?_ ?_); exact zd; exact zd) | ((with_reducible refine Im.bG false ?_ ?_ ?_); exact zd; exact zd) | ((with_reducible refine Im.call (gm.vi hG ?_ _ _) ?_ (fun r hr => ?_)); omega; exact zr) | ((with_reducible refine Im.call (gU.vi hG ?_ _) ?_ (fun r hr => ?_)); omega; exact zr) | ((with_reducible refine Im.call (strings_Compare.vi hG ?_ _ _) ?_ (fun r hr => ?_)); omega; exact zr) | ((with_reducible refine Im.call (eQ.vi hG ?_ _ _) ?_ (fun r hr => ?_)); omega; exact zr)
    | exact zm | exact zx | fail)
theorem bM.vi {k m : Nat} {Gv : nK} (hG : Base Gv) (hm : k + 5 ≤ m) (iY : Int) (iq : Int) (jK : Int) (jE : List ByteArray) (tV : Int) (tX : Int) (tY : Int) (tZ : List ByteArray) : Im (fun r => (.int r, [])) (bM.f k iY iq jK jE tV tX tY tZ) (bI Tryz.prog ti keep Gv m 107 [.ag [.int iY, .int iq, .int jK, .sl (jE.map VV.str)], .ag [.int tV, .int tX, .int tY, .sl (tZ.map VV.str)]]) := by
  obtain ⟨m, rfl⟩ : ∃ m', m = m' + 1 := ⟨m - 1, by omega⟩
  rw [show bI Tryz.prog ti keep Gv (m + 1) 107 _ = _ from bC ((bq hG 107).trans rfl) Tryz.func107 (by kernel_rfl) rfl rfl]
  unfold bM.f
  repeat' first
   | (with_reducible first | exact Im.none | refine Im.ite (fun h => ?_) (fun h => ?_) | refine Im.gy ?_)
   | ((conv => arg 3; whnf); first
    | ((with_reducible refine Im.fin ?_); exact zr) | ((with_reducible refine Im.je ?_ ?_); kernel_rfl) | ((with_reducible refine Im.bH ?_ ?_); exact zq) | ((with_reducible refine Im.bJ ?_ ?_); exact zq) | ((with_reducible refine Im.bH ?_ ?_); exact zd) | ((with_reducible refine Im.must ?_ ?_); exact zd) | ((with_reducible refine Im.bJ ?_ ?_); exact zd) | (with_reducible refine Im.qc ?_) | ((with_reducible refine Im.bG ByteArray.empty ?_ ?_ ?_); exact zd; exact zd) | ((with_reducible refine Im.bG z67 ?_ ?_ ?_); exact zd; exact zd) | ((with_reducible refine Im.bG (0 : Int) ?_ ?_ ?_); exact zd; exact zd) | ((with_reducible refine Im.bG false ?_ ?_ ?_); exact zd; exact zd) | ((with_reducible refine Im.call (gm.vi hG ?_ _ _) ?_ (fun r hr => ?_)); omega; exact zr) | ((with_reducible refine Im.call (fO.vi hG ?_ _ _) ?_ (fun r hr => ?_)); omega; exact zr) | ((with_reducible refine ih1 _ ⟨_, _, _, _, _, _, _, _, _, _, _⟩ _ ?_ ?_); exact zo; exact zr) | ((with_reducible refine ih2 _ ⟨_, _, _, _, _, _, _, _, _, _⟩ _ ?_ ?_); exact zo; exact zr) | ((with_reducible refine Im.loop (S := fun s : List Int × Int × Int × Int × Int × Int × List ByteArray × Int × Int × Int × List ByteArray => .un :: .un :: .bx [.int s.2.2.2.1, .int s.2.2.2.2.1, .int s.2.2.2.2.2.1, .sl (s.2.2.2.2.2.2.1.map VV.str)] :: .bx [.int s.2.2.2.2.2.2.2.1, .int s.2.2.2.2.2.2.2.2.1, .int s.2.2.2.2.2.2.2.2.2.1, .sl (s.2.2.2.2.2.2.2.2.2.2.map VV.str)] :: .un :: .un :: .un :: .un :: .un :: .un :: .un :: .un :: .un :: .un :: .un :: .un :: .un :: .un :: .un :: .un :: .un :: .un :: .un :: .un :: .ow 3 1 (s.1.map VV.int) :: .int s.2.1 :: .int s.2.2.1 :: u55) (L := fun k s => bM.l0 k s.1 s.2.1 s.2.2.1 s.2.2.2.1 s.2.2.2.2.1 s.2.2.2.2.2.1 s.2.2.2.2.2.2.1 s.2.2.2.2.2.2.2.1 s.2.2.2.2.2.2.2.2.1 s.2.2.2.2.2.2.2.2.2.1 s.2.2.2.2.2.2.2.2.2.2) _ ?_ ?_ _ _ ⟨_, _, _, _, _, _, _, _, _, _, _⟩ _ (Nat.le_refl _) zo ?_); (next => intro s; rfl); rotate_left; exact zr; intro k1 M1 ⟨x24, x25, OB, AV, AX, AY, qJ, AZ, A7, Aa, qK⟩ hk1 hM1 ih1; conv => arg 2; simp only [bM.l0]) | ((with_reducible refine Im.loop (S := fun s : Int × Int × Int × Int × Int × List ByteArray × Int × Int × Int × List ByteArray => .un :: .un :: .bx [.int s.2.2.1, .int s.2.2.2.1, .int s.2.2.2.2.1, .sl (s.2.2.2.2.2.1.map VV.str)] :: .bx [.int s.2.2.2.2.2.2.1, .int s.2.2.2.2.2.2.2.1, .int s.2.2.2.2.2.2.2.2.1, .sl (s.2.2.2.2.2.2.2.2.2.map VV.str)] :: .un :: .un :: .un :: .un :: .un :: .un :: .un :: .un :: .un :: .un :: .un :: .un :: .un :: .un :: .un :: .un :: .un :: .un :: .un :: .un :: .un :: .un :: .un :: .un :: .un :: .un :: .un :: .un :: .un :: .un :: .un :: .un :: .un :: .un :: .un :: .un :: .un :: .un :: .un :: .un :: .un :: .un :: .un :: .un :: .un :: .un :: .un :: .un :: .un :: .un :: .un :: .un :: .int s.1 :: .int s.2.1 :: u24) (L := fun k s => bM.l1 k s.1 s.2.1 s.2.2.1 s.2.2.2.1 s.2.2.2.2.1 s.2.2.2.2.2.1 s.2.2.2.2.2.2.1 s.2.2.2.2.2.2.2.1 s.2.2.2.2.2.2.2.2.1 s.2.2.2.2.2.2.2.2.2) _ ?_ ?_ _ _ ⟨_, _, _, _, _, _, _, _, _, _⟩ _ (Nat.le_refl _) zo ?_); (next => intro s; rfl); rotate_left; exact zr; intro k2 M2 ⟨x56, x57, AV, AX, AY, qJ, AZ, A7, Aa, qK⟩ hk2 hM2 ih2; conv => arg 2; simp only [bM.l1])
    | exact zm | exact zx | fail)
theorem gK.vi {k m : Nat} {Gv : nK} (hG : Base Gv) (hm : k + 8 ≤ m) (a0 : ByteArray) (a1 : ByteArray) : Im (fun r => (.int r, [])) (gK.f k a0 a1) (bI Tryz.prog ti keep Gv m 60 [.str a0, .str a1]) := by
  obtain ⟨m, rfl⟩ : ∃ m', m = m' + 1 := ⟨m - 1, by omega⟩
  rw [show bI Tryz.prog ti keep Gv (m + 1) 60 _ = _ from bC ((bq hG 60).trans rfl) Tryz.func60 (by kernel_rfl) rfl rfl]
  unfold gK.f
  repeat' first
   | (with_reducible first | exact Im.none | refine Im.ite (fun h => ?_) (fun h => ?_) | refine Im.gy ?_)
   | ((conv => arg 3; whnf); first
    | ((with_reducible refine Im.fin ?_); exact zr) | ((with_reducible refine Im.je ?_ ?_); kernel_rfl) | ((with_reducible refine Im.bH ?_ ?_); exact zq) | ((with_reducible refine Im.bJ ?_ ?_); exact zq) | ((with_reducible refine Im.bH ?_ ?_); exact zd) | ((with_reducible refine Im.must ?_ ?_); exact zd) | ((with_reducible refine Im.bJ ?_ ?_); exact zd) | (with_reducible refine Im.qc ?_) | ((with_reducible refine Im.bG ByteArray.empty ?_ ?_ ?_); exact zd; exact zd) | ((with_reducible refine Im.bG z67 ?_ ?_ ?_); exact zd; exact zd) | ((with_reducible refine Im.bG (0 : Int) ?_ ?_ ?_); exact zd; exact zd) | ((with_reducible refine Im.bG false ?_ ?_ ?_); exact zd; exact zd) | ((with_reducible refine Im.call (bM.vi hG ?_ _ _ _ _ _ _ _ _) ?_ (fun r hr => ?_)); omega; exact zr) | ((with_reducible refine Im.call (fC.vi hG ?_ _) ?_ (fun r hr => ?_)); omega; exact zr)
    | exact zm | exact zx | fail)
theorem fG.vi {k m : Nat} {Gv : nK} (hG : Base Gv) (hm : k + 10 ≤ m) (a0 : ByteArray) (l1 : List (iR)) : Im (fun r => (.bool r, [])) (fG.f k a0 l1) (bI Tryz.prog ti keep Gv m 22 [.str a0, .sl (l1.map zA)]) := by
  obtain ⟨m, rfl⟩ : ∃ m', m = m' + 1 := ⟨m - 1, by omega⟩
  rw [show bI Tryz.prog ti keep Gv (m + 1) 22 _ = _ from bC ((bq hG 22).trans rfl) Tryz.func22 (by kernel_rfl) rfl rfl]
  unfold fG.f
  repeat' first
   | ((with_reducible refine Im.nat (fun k => fG.j0 k _ _ _ _ _ _ _) _ ?_ (fun kj hkj => ?_)); rfl; (conv => arg 2; simp only [fG.j0, Bool.false_eq_true, reduceIte])) | ((with_reducible refine Im.nat (fun k => fG.j2 k _ _ _ _ _ _ _ _ _ _ _) _ ?_ (fun kj hkj => ?_)); rfl; (conv => arg 2; simp only [fG.j2, Bool.false_eq_true, reduceIte])) | (with_reducible first | exact Im.none | refine Im.ite (fun h => ?_) (fun h => ?_) | refine Im.gy ?_)
   | ((conv => arg 3; whnf); first
    | ((with_reducible refine Im.fin ?_); exact zr) | ((with_reducible refine Im.je ?_ ?_); kernel_rfl) | ((with_reducible refine Im.bH ?_ ?_); exact zq) | ((with_reducible refine Im.bJ ?_ ?_); exact zq) | ((with_reducible refine Im.bH ?_ ?_); exact zd) | ((with_reducible refine Im.must ?_ ?_); exact zd) | ((with_reducible refine Im.bJ ?_ ?_); exact zd) | (with_reducible refine Im.qc ?_) | ((with_reducible refine Im.bG ByteArray.empty ?_ ?_ ?_); exact zd; exact zd) | ((with_reducible refine Im.bG z67 ?_ ?_ ?_); exact zd; exact zd) | ((with_reducible refine Im.bG (0 : Int) ?_ ?_ ?_); exact zd; exact zd) | ((with_reducible refine Im.bG false ?_ ?_ ?_); exact zd; exact zd) | ((with_reducible refine Im.call (fB.vi hG ?_ _) ?_ (fun r hr => ?_)); omega; exact zr) | ((with_reducible refine Im.call (fC.vi hG ?_ _) ?_ (fun r hr => ?_)); omega; exact zr) | ((with_reducible refine Im.call (gK.vi hG ?_ _ _) ?_ (fun r hr => ?_)); omega; exact zr) | ((with_reducible refine ih1 _ ⟨_, _, _, _, _, _, _, _⟩ _ ?_ ?_); exact zo; exact zr) | ((with_reducible refine Im.loop (S := fun s : ByteArray × List (iR) × Int × Int × Int × Int × Int × List ByteArray => .str s.1 :: .un :: .un :: .un :: .un :: .bx [.int s.2.2.2.2.1, .int s.2.2.2.2.2.1, .int s.2.2.2.2.2.2.1, .sl (s.2.2.2.2.2.2.2.map VV.str)] :: .un :: .un :: .un :: .un :: .un :: .un :: .un :: .un :: .un :: .un :: .un :: .un :: .un :: .un :: .un :: .un :: .un :: .sl (s.2.1.map zA) :: .int s.2.2.1 :: .int s.2.2.2.1 :: u63) (L := fun k s => fG.l0 k s.1 s.2.1 s.2.2.1 s.2.2.2.1 s.2.2.2.2.1 s.2.2.2.2.2.1 s.2.2.2.2.2.2.1 s.2.2.2.2.2.2.2) _ ?_ ?_ _ _ ⟨_, _, _, _, _, _, _, _⟩ _ (Nat.le_refl _) zo ?_); (next => intro s; rfl); rotate_left; exact zr; intro k1 M1 ⟨x0, Bj, x24, x25, nN, nO, nP, nR⟩ hk1 hM1 ih1; conv => arg 2; simp only [fG.l0])
    | exact zm | exact zx | fail)
theorem dK.vi {k m : Nat} {Gv : nK} (hG : Base Gv) (hm : k + 10 ≤ m) (l0 : List (iR)) : Im (fun r => (.str r, [])) (dK.f k l0) (bI Tryz.prog ti keep Gv m 10 [.sl (l0.map zA)]) := by
  obtain ⟨m, rfl⟩ : ∃ m', m = m' + 1 := ⟨m - 1, by omega⟩
  rw [show bI Tryz.prog ti keep Gv (m + 1) 10 _ = _ from bC ((bq hG 10).trans rfl) Tryz.func10 (by kernel_rfl) rfl rfl]
  unfold dK.f
  repeat' first
   | ((with_reducible refine Im.nat (fun k => dK.j1 k _ _ _ _ _ _ _) _ ?_ (fun kj hkj => ?_)); rfl; (conv => arg 2; simp only [dK.j1, Bool.false_eq_true, reduceIte])) | (with_reducible first | exact Im.none | refine Im.ite (fun h => ?_) (fun h => ?_) | refine Im.gy ?_)
   | ((conv => arg 3; whnf); first
    | ((with_reducible refine Im.fin ?_); exact zr) | ((with_reducible refine Im.je ?_ ?_); kernel_rfl) | ((with_reducible refine Im.bH ?_ ?_); exact zq) | ((with_reducible refine Im.bJ ?_ ?_); exact zq) | ((with_reducible refine Im.bH ?_ ?_); exact zd) | ((with_reducible refine Im.must ?_ ?_); exact zd) | ((with_reducible refine Im.bJ ?_ ?_); exact zd) | (with_reducible refine Im.qc ?_) | ((with_reducible refine Im.bG ByteArray.empty ?_ ?_ ?_); exact zd; exact zd) | ((with_reducible refine Im.bG z67 ?_ ?_ ?_); exact zd; exact zd) | ((with_reducible refine Im.bG (0 : Int) ?_ ?_ ?_); exact zd; exact zd) | ((with_reducible refine Im.bG false ?_ ?_ ?_); exact zd; exact zd) | ((with_reducible refine Im.call (fB.vi hG ?_ _) ?_ (fun r hr => ?_)); omega; exact zr) | ((with_reducible refine Im.call (strings_Join.vi hG ?_ _ _) ?_ (fun r hr => ?_)); omega; exact zr) | ((with_reducible refine ih1 _ ⟨_, _, _, _⟩ _ ?_ ?_); exact zo; exact zr) | ((with_reducible refine Im.loop (S := fun s : List ByteArray × List (iR) × Int × Int => .un :: .un :: .un :: .ow 9 1 (s.1.map VV.str) :: .un :: .un :: .un :: .un :: .un :: .un :: .un :: .sl (s.2.1.map zA) :: .int s.2.2.1 :: .int s.2.2.2 :: u34) (L := fun k s => dK.l0 k s.1 s.2.1 s.2.2.1 s.2.2.2) _ ?_ ?_ _ _ ⟨_, _, _, _⟩ _ (Nat.le_refl _) zo ?_); (next => intro s; rfl); rotate_left; exact zr; intro k1 M1 ⟨x3, x11, x12, Fe⟩ hk1 hM1 ih1; conv => arg 2; simp only [dK.l0])
    | exact zm | exact zx | fail)
theorem bV.vi {k m : Nat} {Gv : nK} (hG : Base Gv) (SH : Gv 96 = some af.gv) (hm : k + 9 ≤ m) (a0 : ByteArray) : Im (fun r => (.tu [.ag [.str r.1, .str r.2.1], .bool r.2.2], [])) (bV.f k a0) (bI Tryz.prog ti keep Gv m 48 [.str a0]) := by
  obtain ⟨m, rfl⟩ : ∃ m', m = m' + 1 := ⟨m - 1, by omega⟩
  rw [show bI Tryz.prog ti keep Gv (m + 1) 48 _ = _ from bC ((bq hG 48).trans rfl) Tryz.func48 (by kernel_rfl) rfl rfl]
  unfold bV.f
  repeat' first
   | ((with_reducible refine Im.nat (fun k => bV.j0 k _ _) _ ?_ (fun kj hkj => ?_)); rfl; (conv => arg 2; simp only [bV.j0, Bool.false_eq_true, reduceIte])) | (with_reducible first | exact Im.none | refine Im.ite (fun h => ?_) (fun h => ?_) | refine Im.gy ?_)
   | ((conv => arg 3; whnf); first
    | ((with_reducible refine Im.fin ?_); exact zr) | ((with_reducible refine Im.je ?_ ?_); kernel_rfl) | ((with_reducible refine Im.bH ?_ ?_); exact zq) | ((with_reducible refine Im.bJ ?_ ?_); exact zq) | ((with_reducible refine Im.bH ?_ ?_); exact zd) | ((with_reducible refine Im.must ?_ ?_); exact zd) | ((with_reducible refine Im.bJ ?_ ?_); exact zd) | (with_reducible refine Im.qc ?_) | ((with_reducible refine Im.bG ByteArray.empty ?_ ?_ ?_); exact zd; exact zd) | ((with_reducible refine Im.bG z67 ?_ ?_ ?_); exact zd; exact zd) | ((with_reducible refine Im.bG (0 : Int) ?_ ?_ ?_); exact zd; exact zd) | ((with_reducible refine Im.bG false ?_ ?_ ?_); exact zd; exact zd) | ((with_reducible refine Im.call (fC.vi hG ?_ _) ?_ (fun r hr => ?_)); omega; exact zr) | ((with_reducible refine Im.call (nM.vi hG ?_ _ _ _ _) ?_ (fun r hr => ?_)); omega; exact zr) | ((with_reducible refine Im.call (fF.vi hG ?_ _) ?_ (fun r hr => ?_)); omega; exact zr) | ((with_reducible refine Im.call (af.vi hG SH ?_ _) ?_ (fun r hr => ?_)); omega; exact zr) | ((with_reducible refine Im.call (dM.vi hG ?_ _ _ _) ?_ (fun r hr => ?_)); omega; exact zr) | ((with_reducible refine Im.call (strings_Cut.vi hG ?_ _ _) ?_ (fun r hr => ?_)); omega; exact zr) | ((with_reducible refine Im.call (strings_CutPrefix.vi hG ?_ _ _) ?_ (fun r hr => ?_)); omega; exact zr)
    | exact zm | exact zx | fail)
theorem dO.vi {k m : Nat} {Gv : nK} (hG : Base Gv) (SH : Gv 96 = some af.gv) (hm : k + 10 ≤ m) (a0 : ByteArray) : Im (fun r => (.tu [.sl (r.1.map zA), .bool r.2], [])) (dO.f k a0) (bI Tryz.prog ti keep Gv m 12 [.str a0]) := by
  obtain ⟨m, rfl⟩ : ∃ m', m = m' + 1 := ⟨m - 1, by omega⟩
  rw [show bI Tryz.prog ti keep Gv (m + 1) 12 _ = _ from bC ((bq hG 12).trans rfl) Tryz.func12 (by kernel_rfl) rfl rfl]
  unfold dO.f
  repeat' first
   | (with_reducible first | exact Im.none | refine Im.ite (fun h => ?_) (fun h => ?_) | refine Im.gy ?_)
   | ((conv => arg 3; whnf); first
    | ((with_reducible refine Im.fin ?_); exact zr) | ((with_reducible refine Im.je ?_ ?_); kernel_rfl) | ((with_reducible refine Im.bH ?_ ?_); exact zq) | ((with_reducible refine Im.bJ ?_ ?_); exact zq) | ((with_reducible refine Im.bH ?_ ?_); exact zd) | ((with_reducible refine Im.must ?_ ?_); exact zd) | ((with_reducible refine Im.bJ ?_ ?_); exact zd) | (with_reducible refine Im.qc ?_) | ((with_reducible refine Im.bG ByteArray.empty ?_ ?_ ?_); exact zd; exact zd) | ((with_reducible refine Im.bG z67 ?_ ?_ ?_); exact zd; exact zd) | ((with_reducible refine Im.bG (0 : Int) ?_ ?_ ?_); exact zd; exact zd) | ((with_reducible refine Im.bG false ?_ ?_ ?_); exact zd; exact zd) | ((with_reducible refine Im.call (fB.vi hG ?_ _) ?_ (fun r hr => ?_)); omega; exact zr) | ((with_reducible refine Im.call (bV.vi hG SH ?_ _) ?_ (fun r hr => ?_)); omega; exact zr) | ((with_reducible refine Im.call (strings_HasPrefix.vi hG ?_ _ _) ?_ (fun r hr => ?_)); omega; exact zr) | ((with_reducible refine Im.call (strings_Split.vi hG ?_ _ _) ?_ (fun r hr => ?_)); omega; exact zr) | ((with_reducible refine ih1 _ ⟨_, _, _, _⟩ _ ?_ ?_); exact zo; exact zr) | ((with_reducible refine Im.loop (S := fun s : List (iR) × List ByteArray × Int × Int => .un :: .un :: .un :: .un :: .ow 67 2 (s.1.map zA) :: .un :: .un :: .un :: .un :: .un :: .un :: .un :: .un :: .un :: .un :: .ow 9 1 (s.2.1.map VV.str) :: .int s.2.2.1 :: .int s.2.2.2 :: u43) (L := fun k s => dO.l0 k s.1 s.2.1 s.2.2.1 s.2.2.2) _ ?_ ?_ _ _ ⟨_, _, _, _⟩ _ (Nat.le_refl _) zo ?_); (next => intro s; rfl); rotate_left; exact zr; intro k1 M1 ⟨x4, x15, x16, x17⟩ hk1 hM1 ih1; conv => arg 2; simp only [dO.l0])
    | exact zm | exact zx | fail)
end Go.Proofs.YtieohddolkeegaaGreatDoor.VI

end
section
namespace Go.Proofs.YtieohddolkeegaaGreatDoor.VI
open Go Go.RowKit Go.Proofs.YtieohddolkeegaaGreatDoor.G Go.Proofs.aA.aZ
set_option linter.unusedVariables false
set_option linter.unusedSimpArgs false
theorem kv67 : KV GX (fun x => (zA x).cells) := kv_iso (kv_pair Aq Aq) (fun _ => rfl)
end Go.Proofs.YtieohddolkeegaaGreatDoor.VI

end
section
namespace Go.Proofs.YtieohddolkeegaaGreatDoor.VI
open Go Go.RowKit Go.Proofs.YtieohddolkeegaaGreatDoor.G Go.Proofs.aA.aZ
set_option maxRecDepth 100000
set_option linter.unusedVariables false
set_option linter.unusedSimpArgs false
theorem NP : ∀ (q : List VV) (l : List ByteArray), unS q = some l → q = l.map VV.str
  | [], l, h => by cases h; rfl
  | v :: r, l, h => by
    cases v with
    | s x =>
      cases x with
      | string b =>
        obtain ⟨l', h1, h2⟩ := lC h
        cases h2
        rw [NP r l' h1]
        rfl
      | _ => cases h
    | _ => cases h
theorem strings_Join.C9 {W : World} (hE : cZ ji W) (hM : cZ jU W) (hT : cZ jb W) : ∀ vs r, strings_Join.gv vs = some r → ik Tryz.prog W.heap.size (fun w => Below W.heap.size W w) 44 vs r := by
  intro vs r h
  unfold strings_Join.gv at h
  split at h
  case h_2 => cases h
  rename_i q0 a1
  obtain ⟨l0, hq0, h2⟩ := lC h
  obtain rfl := NP _ _ hq0
  obtain ⟨q, hq, rfl⟩ := Option.map_eq_some_iff.1 h2
  refine pU ⟨_, Tryz.func44, by kernel_rfl, by kernel_rfl⟩ rfl fun w ms pd hw hd => ?_
  obtain ⟨m0, ms0, rfl, h0, hd⟩ := jH hd
  obtain ⟨m1, ms1, rfl, h1, hd⟩ := jH hd
  obtain rfl := mP hd
  obtain ⟨A0, c0, rfl, hc0, hr0⟩ := wP (mk := Value.string) (h1 := fun _ => rfl) h0
  obtain rfl := CZ h1
  exact (strings_Join.calls (l0 := l0) (a1 := a1) (r := q) (w := w) (h := hq) (A0 := A0) (c0 := c0) (hr0 := hr0) (hc0 := hc0)).mono fun e w' he => ⟨_, he.1, (he.2), uY _⟩
theorem strings_Split.C9 {W : World} (hE : cZ ji W) (hM : cZ jU W) (hT : cZ jb W) : ∀ vs r, strings_Split.gv vs = some r → ik Tryz.prog W.heap.size (fun w => Below W.heap.size W w) 47 vs r := by
  intro vs r h
  unfold strings_Split.gv at h
  split at h
  case h_2 => cases h
  rename_i a0 a1
  obtain ⟨q, hq, rfl⟩ := Option.map_eq_some_iff.1 h
  refine pU ⟨_, Tryz.func47, by kernel_rfl, by kernel_rfl⟩ rfl fun w ms pd hw hd => ?_
  obtain ⟨m0, ms0, rfl, h0, hd⟩ := jH hd
  obtain ⟨m1, ms1, rfl, h1, hd⟩ := jH hd
  obtain rfl := mP hd
  obtain rfl := CZ h0
  obtain rfl := CZ h1
  refine (strings_Split.calls (a0 := a0) (a1 := a1) (r := q) (w := w) (h := hq) (hGM := cZ.below hM hw)).mono fun e w' he => ?_
  obtain ⟨v0, rfl, hR, hb⟩ := he
  refine ⟨v0, rfl, hb, P7 (mk := Value.string) (fun _ => rfl) ?_ (Kd.EL hR)⟩
  exact (Kd.Au hR).elim fun _ ⟨_, _, _, hC⟩ => hC.2.1
theorem strings_HasPrefix.C9 {W : World} (hE : cZ ji W) (hM : cZ jU W) (hT : cZ jb W) : ∀ vs r, strings_HasPrefix.gv vs = some r → ik Tryz.prog W.heap.size (fun w => Below W.heap.size W w) 49 vs r := by
  intro vs r h
  unfold strings_HasPrefix.gv at h
  split at h
  case h_2 => cases h
  rename_i a0 a1
  obtain ⟨q, hq, rfl⟩ := Option.map_eq_some_iff.1 h
  refine pU ⟨_, Tryz.func49, by kernel_rfl, by kernel_rfl⟩ rfl fun w ms pd hw hd => ?_
  obtain ⟨m0, ms0, rfl, h0, hd⟩ := jH hd
  obtain ⟨m1, ms1, rfl, h1, hd⟩ := jH hd
  obtain rfl := mP hd
  obtain rfl := CZ h0
  obtain rfl := CZ h1
  exact (strings_HasPrefix.calls (a0 := a0) (a1 := a1) (r := q) (w := w) (h := hq)).mono fun e w' he => ⟨_, he.1, (kG.below he.2), uY _⟩
theorem bT.C9 {W : World} (hE : cZ ji W) (hM : cZ jU W) (hT : cZ jb W) : ∀ vs r, bT.gv vs = some r → ik Tryz.prog W.heap.size (fun w => Below W.heap.size W w) 75 vs r := by
  intro vs r h
  unfold bT.gv at h
  split at h
  case h_2 => cases h
  rename_i q0
  obtain ⟨l0, hq0, h2⟩ := lC h
  obtain rfl := NP _ _ hq0
  obtain ⟨q, hq, rfl⟩ := Option.map_eq_some_iff.1 h2
  refine pU ⟨_, Tryz.func75, by kernel_rfl, by kernel_rfl⟩ rfl fun w ms pd hw hd => ?_
  obtain ⟨m0, ms0, rfl, h0, hd⟩ := jH hd
  obtain rfl := mP hd
  obtain ⟨A0, c0, rfl, hc0, hr0⟩ := wP (mk := Value.string) (h1 := fun _ => rfl) h0
  refine (bT.calls (l0 := l0) (r := q) (w := w) (h := hq) (A0 := A0) (c0 := c0) (hr0 := hr0) (hc0 := hc0)).mono fun e w' he => ?_
  obtain ⟨v0, rfl, hR, hb⟩ := he
  refine ⟨v0, rfl, hb, P7 (mk := Value.string) (fun _ => rfl) ?_ (Kd.EL hR)⟩
  exact (Kd.Au hR).elim fun _ ⟨_, _, _, hC⟩ => hC.2.1
theorem strings_Cut.C9 {W : World} (hE : cZ ji W) (hM : cZ jU W) (hT : cZ jb W) : ∀ vs r, strings_Cut.gv vs = some r → ik Tryz.prog W.heap.size (fun w => Below W.heap.size W w) 94 vs r := by
  intro vs r h
  unfold strings_Cut.gv at h
  split at h
  case h_2 => cases h
  rename_i a0 a1
  obtain ⟨q, hq, rfl⟩ := Option.map_eq_some_iff.1 h
  refine pU ⟨_, Tryz.func94, by kernel_rfl, by kernel_rfl⟩ rfl fun w ms pd hw hd => ?_
  obtain ⟨m0, ms0, rfl, h0, hd⟩ := jH hd
  obtain ⟨m1, ms1, rfl, h1, hd⟩ := jH hd
  obtain rfl := mP hd
  obtain rfl := CZ h0
  obtain rfl := CZ h1
  exact (strings_Cut.calls (a0 := a0) (a1 := a1) (r1 := q.1) (r2 := q.2.1) (r3 := q.2.2) (w := w) (h := hq) (hGM := cZ.below hM hw)).mono fun e w' he => ⟨_, he.1, (kG.below he.2), Yx [.string q.1, .string q.2.1, .bool q.2.2]⟩
theorem dm.C9 {W : World} (hE : cZ ji W) (hM : cZ jU W) (hT : cZ jb W) : ∀ vs r, dm.gv vs = some r → ik Tryz.prog W.heap.size (fun w => Below W.heap.size W w) 104 vs r := by
  intro vs r h
  unfold dm.gv at h
  split at h
  case h_2 => cases h
  rename_i a0
  obtain ⟨q, hq, rfl⟩ := Option.map_eq_some_iff.1 h
  refine pU ⟨_, Tryz.func104, by kernel_rfl, by kernel_rfl⟩ rfl fun w ms pd hw hd => ?_
  obtain ⟨m0, ms0, rfl, h0, hd⟩ := jH hd
  obtain rfl := mP hd
  obtain rfl := CZ h0
  exact (dm.calls (a0 := a0) (r := q) (w := w) (h := hq) (hGE := cZ.below hE hw) (hGT := cZ.below hT hw)).mono fun e w' he => ⟨_, he.1, (he.2), uY _⟩
theorem strconv_Itoa.C9 {W : World} (hE : cZ ji W) (hM : cZ jU W) (hT : cZ jb W) : ∀ vs r, strconv_Itoa.gv vs = some r → ik Tryz.prog W.heap.size (fun w => Below W.heap.size W w) 176 vs r := by
  intro vs r h
  unfold strconv_Itoa.gv at h
  split at h
  case h_2 => cases h
  rename_i a0
  obtain ⟨q, hq, rfl⟩ := Option.map_eq_some_iff.1 h
  refine pU ⟨_, Tryz.func176, by kernel_rfl, by kernel_rfl⟩ rfl fun w ms pd hw hd => ?_
  obtain ⟨m0, ms0, rfl, h0, hd⟩ := jH hd
  obtain rfl := mP hd
  obtain rfl := CZ h0
  exact (strconv_Itoa.calls (a0 := a0) (r := q) (w := w) (h := hq) (hGT := cZ.below hT hw)).mono fun e w' he => ⟨_, he.1, (he.2), uY _⟩
theorem eQ.C9 {W : World} (hE : cZ ji W) (hM : cZ jU W) (hT : cZ jb W) : ∀ vs r, eQ.gv vs = some r → ik Tryz.prog W.heap.size (fun w => Below W.heap.size W w) 182 vs r := by
  intro vs r h
  unfold eQ.gv at h
  split at h
  case h_2 => cases h
  rename_i a0 a1
  obtain ⟨q, hq, rfl⟩ := Option.map_eq_some_iff.1 h
  refine pU ⟨_, Tryz.func182, by kernel_rfl, by kernel_rfl⟩ rfl fun w ms pd hw hd => ?_
  obtain ⟨m0, ms0, rfl, h0, hd⟩ := jH hd
  obtain ⟨m1, ms1, rfl, h1, hd⟩ := jH hd
  obtain rfl := mP hd
  obtain rfl := CZ h0
  obtain rfl := CZ h1
  exact (eQ.calls (a0 := a0) (a1 := a1) (r := q) (w := w) (h := hq)).mono fun e w' he => ⟨_, he.1, (kG.below he.2), uY _⟩
theorem strings_Compare.C9 {W : World} (hE : cZ ji W) (hM : cZ jU W) (hT : cZ jb W) : ∀ vs r, strings_Compare.gv vs = some r → ik Tryz.prog W.heap.size (fun w => Below W.heap.size W w) 183 vs r := by
  intro vs r h
  unfold strings_Compare.gv at h
  split at h
  case h_2 => cases h
  rename_i a0 a1
  obtain ⟨q, hq, rfl⟩ := Option.map_eq_some_iff.1 h
  refine pU ⟨_, Tryz.func183, by kernel_rfl, by kernel_rfl⟩ rfl fun w ms pd hw hd => ?_
  obtain ⟨m0, ms0, rfl, h0, hd⟩ := jH hd
  obtain ⟨m1, ms1, rfl, h1, hd⟩ := jH hd
  obtain rfl := mP hd
  obtain rfl := CZ h0
  obtain rfl := CZ h1
  exact (strings_Compare.calls (a0 := a0) (a1 := a1) (r := q) (w := w) (h := hq)).mono fun e w' he => ⟨_, he.1, (kG.below he.2), uY _⟩
theorem xZ {W : World} (hE : cZ ji W) (hM : cZ jU W) (hT : cZ jb W) : MW Tryz.prog W.heap.size (fun w => Below W.heap.size W w) Gv0 := by
  intro f g vs r hg hr
  unfold Gv0 at hg
  split at hg
  · cases hg; exact strings_Join.C9 hE hM hT vs r hr
  · cases hg; exact strings_Split.C9 hE hM hT vs r hr
  · cases hg; exact strings_HasPrefix.C9 hE hM hT vs r hr
  · cases hg; exact bT.C9 hE hM hT vs r hr
  · cases hg; exact strings_Cut.C9 hE hM hT vs r hr
  · cases hg; exact dm.C9 hE hM hT vs r hr
  · cases hg; exact strconv_Itoa.C9 hE hM hT vs r hr
  · cases hg; exact eQ.C9 hE hM hT vs r hr
  · cases hg; exact strings_Compare.C9 hE hM hT vs r hr
  · cases hg
end Go.Proofs.YtieohddolkeegaaGreatDoor.VI

end
section
namespace Go.Proofs.YtieohddolkeegaaGreatDoor.G
open Go Go.RowKit Go.Proofs.aA.aZ Go.Proofs.YtieohddolkeegaaGreatDoor.VI
set_option maxRecDepth 100000
set_option linter.unusedVariables false
set_option linter.unusedSimpArgs false
theorem aJ.calls (k : Nat) (a0 : ByteArray) (r1 : ByteArray) (r2 : ByteArray) (r3 : Bool) (w : World) (hGE : cZ ji w) (hGM : cZ jU w) (hGT : cZ jb w) (h : aJ.f k a0 = some (r1, r2, r3)) :
  Calls Tryz.prog 51 #[.string a0] w fun e w' => e = .returned (.tuple #[.agg #[.string r1, .string r2], .bool r3]) ∧ Below w.heap.size w w' := by
  have nI : ∀ a b, Below w.heap.size w a → Below w.heap.size a b → Below w.heap.size w b := fun a b h1 h2 => h1.trans h2
  have hok := xR (P := Tryz.prog) (NG := w.heap.size) (GW := fun a => Below w.heap.size w a) VI.hti nI (keep := keep) (Gv := Gv0) (xZ hGE hGM hGT) (fun C hC hc => xW (by kernel_rfl) (by rw [hC]; exact VI.hti) nI hc) (k + 10)
  exact ik.callsA [.string r1, .string r2] [.bool r3] (hok 51 _ _ rfl (aJ.vi (k := k) (m := k + 10) base0 (Nat.le_refl _) a0 _ h)) (Below.refl _ _) (Nat.le_refl _) (.cons _ _ _ _ (.s _) .nil)
theorem au.calls (k : Nat) (iY : Int) (iq : Int) (jK : Int) (Yz : Option Addr) (ZA : Nat) (jE : List ByteArray) (r : ByteArray) (w : World) (ZB : Kd.C Kd.string w Yz jE.length jE) (ZC : jE.length ≤ ZA) (hGE : cZ ji w) (hGM : cZ jU w) (hGT : cZ jb w) (h : au.f k iY iq jK jE = some r) :
  Calls Tryz.prog 102 #[.agg #[.int .i64 iY, .int .i64 iq, .int .i64 jK, .slice Yz jE.length ZA]] w fun e w' => e = .returned (.string r) ∧ Below w.heap.size w w' := by
  have nI : ∀ a b, Below w.heap.size w a → Below w.heap.size a b → Below w.heap.size w b := fun a b h1 h2 => h1.trans h2
  have hok := xR (P := Tryz.prog) (NG := w.heap.size) (GW := fun a => Below w.heap.size w a) VI.hti nI (keep := keep) (Gv := Gv0) (xZ hGE hGM hGT) (fun C hC hc => xW (by kernel_rfl) (by rw [hC]; exact VI.hti) nI hc) (k + 5)
  exact ik.calls (hok 102 _ _ rfl (au.vi (k := k) (m := k + 5) base0 (Nat.le_refl _) iY iq jK jE _ h)) (Below.refl _ _) (Nat.le_refl _) (.cons _ _ _ _ (.ag _ _ (.cons _ _ _ _ (.s _) (.cons _ _ _ _ (.s _) (.cons _ _ _ _ (.s _) (.cons _ _ _ _ (NI (enc := VV.str) Aq ZC ZB) .nil)))) (by intro m hm; simp only [List.mem_cons, List.not_mem_nil, or_false] at hm; rcases hm with rfl | rfl | rfl | rfl <;> rfl)) .nil)
theorem bU.calls (k : Nat) (iY : Int) (iq : Int) (jK : Int) (Yz : Option Addr) (ZA : Nat) (jE : List ByteArray) (r : ByteArray) (w : World) (ZB : Kd.C Kd.string w Yz jE.length jE) (ZC : jE.length ≤ ZA) (hGE : cZ ji w) (hGM : cZ jU w) (hGT : cZ jb w) (h : bU.f k iY iq jK jE = some r) :
  Calls Tryz.prog 105 #[.agg #[.int .i64 iY, .int .i64 iq, .int .i64 jK, .slice Yz jE.length ZA]] w fun e w' => e = .returned (.string r) ∧ Below w.heap.size w w' := by
  have nI : ∀ a b, Below w.heap.size w a → Below w.heap.size a b → Below w.heap.size w b := fun a b h1 h2 => h1.trans h2
  have hok := xR (P := Tryz.prog) (NG := w.heap.size) (GW := fun a => Below w.heap.size w a) VI.hti nI (keep := keep) (Gv := Gv0) (xZ hGE hGM hGT) (fun C hC hc => xW (by kernel_rfl) (by rw [hC]; exact VI.hti) nI hc) (k + 6)
  exact ik.calls (hok 105 _ _ rfl (bU.vi (k := k) (m := k + 6) base0 (Nat.le_refl _) iY iq jK jE _ h)) (Below.refl _ _) (Nat.le_refl _) (.cons _ _ _ _ (.ag _ _ (.cons _ _ _ _ (.s _) (.cons _ _ _ _ (.s _) (.cons _ _ _ _ (.s _) (.cons _ _ _ _ (NI (enc := VV.str) Aq ZC ZB) .nil)))) (by intro m hm; simp only [List.mem_cons, List.not_mem_nil, or_false] at hm; rcases hm with rfl | rfl | rfl | rfl <;> rfl)) .nil)
end Go.Proofs.YtieohddolkeegaaGreatDoor.G

end
