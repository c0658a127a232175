/- A part of the proof that the law FnRange answers true at every input that its row speaks of. Conditions: the row's own. -/
import Derived.Test.YtieohddolkeegaaGreatDoorKFnRange0
import Derived.Test.YtieohddolkeegaaGreatDoorOpZ
section
namespace Go.Proofs.YtieohddolkeegaaGreatDoor.G
open Go.RowKit Go.Proofs.aA.aZ Go.Proofs.aA.jM Go.Proofs.aA.mW
attribute [local go_sem] qj ql uO uP o8 o9 qm qo
attribute [local go_sem high] Go.Proofs.YtieohddolkeegaaGreatDoor.G.sH Go.Proofs.YtieohddolkeegaaGreatDoor.G.sJ Go.Proofs.YtieohddolkeegaaGreatDoor.G.sK
set_option linter.unusedVariables false
set_option linter.unusedSimpArgs false
def xG.f (l0 : List Int) : Option (Bool) := some (decide ((l0.length : Int) > 1048576))
theorem eqA67 (d : Nat) (w : World) (x0 y0 : ByteArray) (x1 y1 : ByteArray) :
  (Op.equalIn (d + 2) 67 (.agg #[.string x0, .string x1]) (.agg #[.string y0, .string y1])).run Tryz.prog w = .ok (x0.toList == y0.toList && (x1.toList == y1.toList)) w := by
 refine eqA_of Tryz.underlying67 (by kernel_rfl) ?_
 refine Xp (by rfl) (by go_simp; rfl) (by go_simp; rfl) (by go_simp) ?_
 exact Xq (by rfl) (by go_simp; rfl) (by go_simp; rfl) (by go_simp)
set_option maxHeartbeats 8000000 in
set_option maxRecDepth 100000 in
theorem bu.calls (k : Nat) (A0 : Option Addr) (c0 : Nat) (l0 : List Int) (r1 : List Int) (r2 : Int) (r3 : Int) (w0 w : World) (hB : Below w0.heap.size w0 w) (hr0 : Kd.C (Kd.int .u8) w0 A0 l0.length l0) (hc0 : l0.length ≤ c0) (h : bu.f k l0 = some (r1, r2, r3)) :
  Calls Tryz.prog 43 #[.slice A0 l0.length c0] w fun e w' => ∃ g_ : Nat, e = .returned (.pointer (some ⟨g_, 0, none⟩)) ∧ aG w0 w' g_ r1 r2 r3 ∧ Below w0.heap.size w0 w' ∧ Below w.heap.size w w' := by
 have hu104 := Tryz.underlying104
 have HR0 := am hr0
 have Xr := am hc0
 clear hr0 hc0
 have HBW := am (Below.refl w.heap.size w)
 have HW0 := am hB.size
 have HB := am hB
 clear hB
 have H : (bu.l0 k l0 (wrap64 (445445 + (l0.length : Int))) 0) = some (r1, r2, r3) := h
 clear h
 have H' := am H
 clear H
 go_enter Tryz.func43, Tryz.ntmps43
 go_wp2
 go_loopg [3, 4] k (fun kq v3 v4 w' => ∃ (tq : Int) (nS : Int), v3 = .int .i64 tq ∧ v4 = .int .i64 nS ∧ dC (bu.l0 kq l0 tq nS = some (r1, r2, r3)) ∧ dC (kq ≤ k) ∧ dC (Below w0.heap.size w0 w') ∧ dC (Below w.heap.size w w'))
 case atStart => exact ⟨(wrap64 (445445 + (l0.length : Int))), (0), oH, oH, H', ⟨Nat.le_refl _⟩, ⟨uA⟩, ⟨zb30⟩⟩
 case round =>
  clear H'
  obtain ⟨tq, nS, rfl, rfl, HA, Ql, HB, HBW⟩ := hrel
  cases gk with
  | zero => exact absurd HA.out (by simp [bu.l0])
  | succ k1 =>
   have H := HA.out
   clear HA
   simp only [bu.l0] at H
   by_cases c2 : nS < (l0.length : Int)
   ·rw [if_pos c2] at H
    have c2b0 : decide (nS < (l0.length : Int)) = true := decide_eq_true c2
    clear c2
    by_cases c3 : nS < 4000
    ·rw [if_pos c3] at H
     have Ja : decide (nS < 4000) = true := decide_eq_true c3
     clear c3
     by_cases c4 : 0 ≤ nS
     ·rw [if_pos c4] at H
      have DY : decide (0 ≤ nS) = true := decide_eq_true c4
      clear c4
      have H' := am H
      clear H
      have p485 : 0 ≤ (nS : Int) := of_decide_eq_true kJ
      have q485 : nS < (l0.length : Int) := of_decide_eq_true kJ
      obtain ⟨ad485, e485, Tz⟩ := Kd.qy HR0.out nS p485 q485
      cases e485
      replace Tz := pX HB.out Tz
      replace p485 := eq_true p485
      replace q485 := eq_true q485
      go_wp2
      go_roundg k1
      case measure => have := Ql.out; omega
      case rel => exact ⟨(Go.bits .and .i64 (wrap64 ((wrap64 ((wrap64 (tq * 131)) + (wrap64 (rd l0 nS)))) + 7)) 1073741823), (wrap64 (nS + 1)), oH, oH, H', ⟨by have := Ql.out; omega⟩, ⟨uA⟩, ⟨zb30⟩⟩
     ·rw [if_neg c4] at H
      exact absurd H gB
    ·rw [if_neg c3] at H
     have Ja : decide (nS < 4000) = false := decide_eq_false c3
     clear c3
     simp only [Option.some.injEq, Prod.mk.injEq] at H
     obtain ⟨rfl, rfl, rfl⟩ := H
     go_wp2
     go_ret
     exact ⟨_, rfl, (show aG w0 _ _ l0 0 tq from ⟨_, _, heap_alloc_new _ _, eP uA, HR0.out⟩), uA, zb30⟩
   ·rw [if_neg c2] at H
    have c2b0 : decide (nS < (l0.length : Int)) = false := decide_eq_false c2
    clear c2
    simp only [Option.some.injEq, Prod.mk.injEq] at H
    obtain ⟨rfl, rfl, rfl⟩ := H
    go_wp2
    go_ret
    exact ⟨_, rfl, (show aG w0 _ _ l0 0 tq from ⟨_, _, heap_alloc_new _ _, eP uA, HR0.out⟩), uA, zb30⟩
set_option maxHeartbeats 8000000 in
set_option maxRecDepth 100000 in
theorem aj.calls (k : Nat) (a0 : ByteArray) (r : List ByteArray) (w : World) (h : aj.f k a0 = some r) :
  Calls Tryz.prog 50 #[.string a0] w fun e w' => ∃ KC : Value, e = .returned (KC) ∧ Kd.R Kd.string 9 w' w.heap.size (fun _ => True) KC r ∧ Below w.heap.size w w' := by
 have HB := am (Below.refl w.heap.size w)
 have H : (aj.l0 k a0 (([] : List ByteArray)) 0 0) = some r := h
 clear h
 obtain ⟨y101, hy101⟩ : ∃ y_ : List ByteArray, y_ = (([] : List ByteArray)) := ⟨_, rfl⟩
 replace H : (aj.l0 k a0 y101 0 0) = some r := by first | (rw [hy101]; with_reducible exact H) | (have rZ := (Option.bind_some _ _).symm.trans H; rw [hy101]; with_reducible exact rZ) | (have rZ := (Option.bind_some _ _).symm.trans H; with_reducible exact rZ) | with_reducible exact H | (rw [hy101]; exact H) | exact H
 have Ny101 := am hy101
 clear hy101
 have H' := am H
 clear H
 go_enter Tryz.func50, Tryz.ntmps50
 go_wp2_with (first | ((with_reducible refine jF (N := 6) rfl ?_); refine Kd.su Kd.string _ 9 ?hg (N := 6) ?hd (xs := ([] : List ByteArray)) (inner := []) (ok := fun _ => True) (okp := fun _ => True) ?hr ?hp (fun _ hk => hk) trivial (Below.refl _ _) (Nat.le_refl _) gB ?_; (case hd => rfl); (case hg => rfl); (case hr => exact oI); (case hp => exact (oJ.none _ _)); intro v102 w2 ho3 hb xH jf; clear xH jf; (first | rw [← Ny101.out] at ho3 | (simp only [Int.reduceToNat] at ho3; rw [← Ny101.out] at ho3)); have HO103 := am (Kd.iT ho3 (eP uA)); replace HB := am (bK uA hb); clear hb ho3))
 go_loopg [3, 4, 5] k (fun kq v3 v4 v5 w' => ∃ (tq : List ByteArray) (nS : Int) (dH : Int), v4 = .int .i64 nS ∧ v5 = .int .i64 dH ∧ dC (aj.l0 kq a0 tq nS dH = some r) ∧ dC (kq ≤ k) ∧ dC (Kd.R Kd.string 9 w' w.heap.size (fun _ => True) v3 tq) ∧ dC (Below w.heap.size w w'))
 case atStart => exact ⟨(y101), (0), (0), oH, oH, H', ⟨Nat.le_refl _⟩, ⟨(zR HO103.out)⟩, ⟨uA⟩⟩
 case round =>
  clear H'
  try clear p2
  obtain ⟨tq, nS, dH, rfl, rfl, HA, Ql, uB, HB⟩ := hrel
  cases gk with
  | zero => exact absurd HA.out (by simp [aj.l0])
  | succ k1 =>
   have H := HA.out
   clear HA
   simp only [aj.l0] at H
   by_cases c4 : (wrap64 (dH + 4)) ≤ (a0.size : Int)
   ·rw [if_pos c4] at H
    have DY : decide ((wrap64 (dH + 4)) ≤ (a0.size : Int)) = true := decide_eq_true c4
    clear c4
    by_cases c5 : dH ≥ nS
    ·rw [if_pos c5] at H
     have V6 : decide (nS ≤ dH) = true := decide_eq_true c5
     clear c5
     by_cases c6 : 0 ≤ dH
     ·rw [if_pos c6] at H
      have c6b0 := eq_true c6
      have c6b1 : decide (0 ≤ dH) = true := decide_eq_true c6
      clear c6
      by_cases c7 : dH ≤ (wrap64 (dH + 4))
      ·rw [if_pos c7] at H
       have zD := eq_true c7
       have OL : decide (dH ≤ (wrap64 (dH + 4))) = true := decide_eq_true c7
       have c8b0 := eq_true (of_decide_eq_true kJ : (wrap64 (dH + 4)) ≤ (a0.size : Int))
       obtain ⟨js9, hjs9⟩ : ∃ j_ : ByteArray, (a0.extract (dH : Int).toNat ((wrap64 (dH + 4)) : Int).toNat) = j_ := ⟨_, rfl⟩
       replace H : (if (js9).toList = ([32, 124, 124, 32] : List UInt8) then (if 0 ≤ nS then (if nS ≤ dH then (if dH ≤ (a0.size : Int) then (if tq.length < 8796093022208 then (aj.l0 k1 a0 (tq ++ [a0.extract (nS : Int).toNat (dH : Int).toNat]) (wrap64 (dH + 4)) (wrap64 (dH + 1))) else (none)) else (none)) else (none)) else (none)) else (aj.l0 k1 a0 tq nS (wrap64 (dH + 1)))) = some r := by first | (rw [hjs9] at H; exact H) | (simp only [hjs9] at H ⊢; exact H)
       by_cases c10 : (js9).toList = ([32, 124, 124, 32] : List UInt8)
       ·rw [if_pos c10] at H
        have KD : ((js9).toList == ([32, 124, 124, 32] : List UInt8)) = true := beq_iff_eq.mpr c10
        have c10b1 : ((js9).toList != ([32, 124, 124, 32] : List UInt8)) = false := bne_eq_false_iff_eq.mpr c10
        clear c10
        by_cases c11 : 0 ≤ nS
        ·rw [if_pos c11] at H
         have Xt := eq_true c11
         have c11b1 : decide (0 ≤ nS) = true := decide_eq_true c11
         clear c11
         by_cases c12 : nS ≤ dH
         ·rw [if_pos c12] at H
          have Dj := eq_true c12
          have c12b1 : decide (nS ≤ dH) = true := decide_eq_true c12
          clear c12
          by_cases c13 : dH ≤ (a0.size : Int)
          ·rw [if_pos c13] at H
           have Xu := eq_true c13
           have Xv : decide (dH ≤ (a0.size : Int)) = true := decide_eq_true c13
           clear c13
           obtain ⟨Bo, yj⟩ : ∃ j_ : ByteArray, (a0.extract (nS : Int).toNat (dH : Int).toNat) = j_ := ⟨_, rfl⟩
           replace H : (if tq.length < 8796093022208 then (aj.l0 k1 a0 (tq ++ [Bo]) (wrap64 (dH + 4)) (wrap64 (dH + 1))) else (none)) = some r := by first | (rw [yj] at H; exact H) | (simp only [yj] at H ⊢; exact H)
           by_cases c15 : tq.length < 8796093022208
           ·rw [if_pos c15] at H
            have LMc15 := am c15
            clear c15
            obtain ⟨y104, hy104⟩ : ∃ y_ : List ByteArray, y_ = (tq ++ [Bo]) := ⟨_, rfl⟩
            replace H : (aj.l0 k1 a0 y104 (wrap64 (dH + 4)) (wrap64 (dH + 1))) = some r := by first | (rw [hy104]; with_reducible exact H) | (have rZ := (Option.bind_some _ _).symm.trans H; rw [hy104]; with_reducible exact rZ) | (have rZ := (Option.bind_some _ _).symm.trans H; with_reducible exact rZ) | with_reducible exact H | (rw [hy104]; exact H) | exact H
            have Ny104 := am hy104
            clear hy104
            have H' := am H
            clear H
            go_wp2_with (first | ((with_reducible refine uQ (b := .append) (xs := #[.tmp 25, .tmp 30]) rfl ?_); at_builtin; refine Kd.Dk Kd.string (w0 := w) w.heap.size rfl (.tmp 25) (.tmp 30) 36 9 (.string ⟨#[]⟩) 16 rfl Tryz.underlying36 info9 rfl dY mY u3 tq Bo [.string Bo] (fun _ => True) (fun _ => False) rfl rfl ?aP (fun _ hk => hk.elim) ?aF ?aO ?aB ?aS ?aL ?_; (case aP => exact rfl); (case aB => exact uA); (case aF => exact (fun _ _ => trivial)); (case aO => exact (zR uB.out)); (case aS => exact (eP uA)); (case aL => have := LMc15.out; omega); intro v105 w16 ho hb hg hat; rw [← Ny104.out] at ho; replace HB := am hb; have HO106 := am ho; clear uB ho hb hg hat))
            go_roundg k1
            case measure => have := Ql.out; omega
            case rel => exact ⟨(y104), (wrap64 (dH + 4)), (wrap64 (dH + 1)), oH, oH, H', ⟨by have := Ql.out; omega⟩, ⟨(zR HO106.out)⟩, ⟨uA⟩⟩
           ·rw [if_neg c15] at H
            exact absurd H gB
          ·rw [if_neg c13] at H
           exact absurd H gB
         ·rw [if_neg c12] at H
          exact absurd H gB
        ·rw [if_neg c11] at H
         exact absurd H gB
       ·rw [if_neg c10] at H
        have KD : ((js9).toList == ([32, 124, 124, 32] : List UInt8)) = false := beq_eq_false_iff_ne.mpr c10
        have c10b1 : ((js9).toList != ([32, 124, 124, 32] : List UInt8)) = true := bne_iff_ne.mpr c10
        have H' := am H
        clear H
        go_wp2
        go_roundg k1
        case measure => have := Ql.out; omega
        case rel => exact ⟨(tq), (nS), (wrap64 (dH + 1)), oH, oH, H', ⟨by have := Ql.out; omega⟩, ⟨(zR uB.out)⟩, ⟨uA⟩⟩
      ·rw [if_neg c7] at H
       exact absurd H gB
     ·rw [if_neg c6] at H
      exact absurd H gB
    ·rw [if_neg c5] at H
     have V6 : decide (nS ≤ dH) = false := decide_eq_false c5
     clear c5
     have H' := am H
     clear H
     go_wp2
     go_roundg k1
     case measure => have := Ql.out; omega
     case rel => exact ⟨(tq), (nS), (wrap64 (dH + 1)), oH, oH, H', ⟨by have := Ql.out; omega⟩, ⟨(zR uB.out)⟩, ⟨uA⟩⟩
   ·rw [if_neg c4] at H
    have DY : decide ((wrap64 (dH + 4)) ≤ (a0.size : Int)) = false := decide_eq_false c4
    clear c4
    by_cases c17 : 0 ≤ nS
    ·rw [if_pos c17] at H
     have c17b0 := eq_true c17
     have c17b1 : decide (0 ≤ nS) = true := decide_eq_true c17
     clear c17
     by_cases c18 : nS ≤ (a0.size : Int)
     ·rw [if_pos c18] at H
      have c18b0 := eq_true c18
      have c18b1 : decide (nS ≤ (a0.size : Int)) = true := decide_eq_true c18
      clear c18
      obtain ⟨js19, Xw⟩ : ∃ j_ : ByteArray, (a0.extract (nS : Int).toNat a0.size) = j_ := ⟨_, rfl⟩
      replace H : (if tq.length < 8796093022208 then (some (tq ++ [js19])) else (none)) = some r := by first | (rw [Xw] at H; exact H) | (simp only [Xw] at H ⊢; exact H)
      by_cases c20 : tq.length < 8796093022208
      ·rw [if_pos c20] at H
       have LMc20 := am c20
       clear c20
       obtain ⟨y107, OM⟩ : ∃ y_ : List ByteArray, y_ = (tq ++ [js19]) := ⟨_, rfl⟩
       replace H : (some y107) = some r := by first | (rw [OM]; with_reducible exact H) | (have rZ := (Option.bind_some _ _).symm.trans H; rw [OM]; with_reducible exact rZ) | (have rZ := (Option.bind_some _ _).symm.trans H; with_reducible exact rZ) | with_reducible exact H | (rw [OM]; exact H) | exact H
       have Ny107 := am OM
       clear OM
       obtain rfl := Option.some.inj H
       go_wp2_with (first | ((with_reducible refine uQ (b := .append) (xs := #[.tmp 34, .tmp 38]) rfl ?_); at_builtin; refine Kd.Dk Kd.string (w0 := w) w.heap.size rfl (.tmp 34) (.tmp 38) 36 9 (.string ⟨#[]⟩) 16 rfl Tryz.underlying36 info9 rfl dY mY u3 tq js19 [.string js19] (fun _ => True) (fun _ => False) rfl rfl ?aP (fun _ hk => hk.elim) ?aF ?aO ?aB ?aS ?aL ?_; (case aP => exact rfl); (case aB => exact uA); (case aF => exact (fun _ _ => trivial)); (case aO => exact (zR uB.out)); (case aS => exact (eP uA)); (case aL => have := LMc20.out; omega); intro v108 w21 ho hb hg hat; rw [← Ny107.out] at ho; replace HB := am hb; have HO109 := am ho; clear uB ho hb hg hat))
       go_ret
       exact ⟨_, (by first | rfl | (simp [jv, jw] <;> rfl) | (simp only [← Xw]; first | rfl | (simp [jv, jw] <;> rfl)) | (simp [*, jv, jw] <;> rfl)), (zR HO109.out), uA⟩
      ·rw [if_neg c20] at H
       exact absurd H gB
     ·rw [if_neg c18] at H
      exact absurd H gB
    ·rw [if_neg c17] at H
     exact absurd H gB
set_option maxHeartbeats 8000000 in
set_option maxRecDepth 100000 in
theorem gW.calls (g : Nat) (ax : List Int) (gX : Int) (gu : Int) (r1 : Int) (r2 : Int) (r3 : Int) (w0 w : World) (hI : aG w0 w g ax gX gu) (hB : Below w0.heap.size w0 w) (h : gW.f ax gX gu = some (r1, r2, r3)) :
  Calls Tryz.prog 127 #[.pointer (some ⟨g, 0, none⟩)] w fun e w' => e = .returned (.int .i64 r1) ∧ aG w0 w' g ax r2 r3 ∧ Below w0.heap.size w0 w' ∧ aQ w w' g none := by
 have HI0 := am hI
 have HK := am (aQ.refl w g none)
 have HL := am hB.size
 clear hI
 have HW0 := am hB.size
 have HB := am hB
 clear hB
 have H : (if gX < (ax.length : Int) then (if 0 ≤ gX then (some (Go.bits .and .i64 (wrap64 ((Go.bits .and .i64 (Go.bits .xor .i64 ((wrap64 ((wrap64 (gu * 6364136223846793005)) + 1442695040888963407)) / 8589934592) ((wrap64 ((wrap64 (gu * 6364136223846793005)) + 1442695040888963407)) / 35184372088832)) 255) + (wrap64 (rd ax gX)))) 255, wrap64 (gX + 1), wrap64 ((wrap64 (gu * 6364136223846793005)) + 1442695040888963407))) else (none)) else (some (Go.bits .and .i64 (Go.bits .xor .i64 ((wrap64 ((wrap64 (gu * 6364136223846793005)) + 1442695040888963407)) / 8589934592) ((wrap64 ((wrap64 (gu * 6364136223846793005)) + 1442695040888963407)) / 35184372088832)) 255, gX, wrap64 ((wrap64 (gu * 6364136223846793005)) + 1442695040888963407)))) = some (r1, r2, r3) := h
 clear h
 by_cases c2 : gX < (ax.length : Int)
 ·rw [if_pos c2] at H
  have c2b0 : decide (gX < (ax.length : Int)) = true := decide_eq_true c2
  clear c2
  by_cases c3 : 0 ≤ gX
  ·rw [if_pos c3] at H
   have Ja : decide (0 ≤ gX) = true := decide_eq_true c3
   clear c3
   simp only [Option.some.injEq, Prod.mk.injEq] at H
   obtain ⟨rfl, rfl, rfl⟩ := H
   obtain ⟨ASz4_0, cSz4_0, V7, hgz4, HSz4_0⟩ := HI0.out
   have hcz4_0 := Hw V7
   have hcz4_1 := Hy V7
   have hcz4_2 := Hz V7
   have hfz4_1 := aX V7 1
   have hfz4_2 := aX V7 2
   clear V7 hgz4
   have p322 : 0 ≤ (gX : Int) := of_decide_eq_true kJ
   have q322 : gX < (ax.length : Int) := of_decide_eq_true kJ
   obtain ⟨ad322, e322, Ac⟩ := Kd.qy HSz4_0 gX p322 q322
   cases e322
   have H5 : ad322.block ≠ g := Nat.ne_of_lt (Nat.lt_of_lt_of_le (by have := World.block_lt_of_cell? _ _ Ac; first | rwa [add_block] at this | exact this) (aG.ge HI0.out))
   replace Ac := pX HB.out Ac
   replace Ac := (cell_far (p := ⟨g, 2, none⟩) (by first | (rw [add_block]; exact H5) | (show (Addr.add _ _).block ≠ _; rw [add_block]; exact H5) | exact H5) (.int .i64 (wrap64 ((wrap64 (gu * 6364136223846793005)) + 1442695040888963407)))).trans Ac
   (try have hy322_0 := fun (n_ : Nat) => (show (((w.drewN n_).setCell ⟨g, 2, none⟩ (.int .i64 (wrap64 ((wrap64 (gu * 6364136223846793005)) + 1442695040888963407))))).cell? _ = some _ from Ac))
   clear H5
   replace p322 := eq_true p322
   replace q322 := eq_true q322
   go_enter Tryz.func127, Tryz.ntmps127
   go_wp2
   repeat (go_quiet (fail); try go_wp2)
   go_ret
   exact ⟨pY, lW, lY, lX⟩
  ·rw [if_neg c3] at H
   exact absurd H gB
 ·rw [if_neg c2] at H
  have c2b0 : decide (gX < (ax.length : Int)) = false := decide_eq_false c2
  clear c2
  simp only [Option.some.injEq, Prod.mk.injEq] at H
  obtain ⟨rfl, rfl, rfl⟩ := H
  obtain ⟨ASz5_0, cSz5_0, V8, hgz5, HSz5_0⟩ := HI0.out
  have hcz5_0 := Hw V8
  have hcz5_1 := Hy V8
  have hcz5_2 := Hz V8
  have hfz5_1 := aX V8 1
  have hfz5_2 := aX V8 2
  clear V8 hgz5
  go_enter Tryz.func127, Tryz.ntmps127
  go_wp2
  repeat (go_quiet (fail); try go_wp2)
  go_ret
  exact ⟨pY, lW, lY, lX⟩
set_option maxHeartbeats 8000000 in
set_option maxRecDepth 100000 in
theorem az.calls (g : Nat) (ax : List Int) (gX : Int) (gu : Int) (a1 : Int) (r1 : Int) (r2 : Int) (r3 : Int) (w0 w : World) (hI : aG w0 w g ax gX gu) (hB : Below w0.heap.size w0 w) (h : az.f ax gX gu a1 = some (r1, r2, r3)) :
  Calls Tryz.prog 88 #[.pointer (some ⟨g, 0, none⟩), .int .i64 a1] w fun e w' => e = .returned (.int .i64 r1) ∧ aG w0 w' g ax r2 r3 ∧ Below w0.heap.size w0 w' ∧ aQ w w' g none := by
 have HI0 := am hI
 have HK := am (aQ.refl w g none)
 have HL := am hB.size
 clear hI
 have HW0 := am hB.size
 have HB := am hB
 clear hB
 have H : (if a1 ≤ 0 then (some (0, gX, gu)) else (if a1 ≤ 256 then ((gW.f ax gX gu).bind fun IA => (if a1 = 0 then (none) else (some (Int.tmod IA.1 a1, IA.2.1, IA.2.2)))) else ((gW.f ax gX gu).bind fun IB => ((gW.f ax IB.2.1 IB.2.2).bind fun IC => ((gW.f ax IC.2.1 IC.2.2).bind fun IE => ((gW.f ax IE.2.1 IE.2.2).bind fun IG => (if a1 = 0 then (none) else (some (Int.tmod (wrap64 ((wrap64 ((wrap64 ((wrap64 (IB.1 * 16777216)) + (wrap64 (IC.1 * 65536)))) + (wrap64 (IE.1 * 256)))) + IG.1)) a1, IG.2.1, IG.2.2))))))))) = some (r1, r2, r3) := h
 clear h
 by_cases c3 : a1 ≤ 0
 ·rw [if_pos c3] at H
  have Ja : decide (a1 ≤ 0) = true := decide_eq_true c3
  clear c3
  simp only [Option.some.injEq, Prod.mk.injEq] at H
  obtain ⟨rfl, rfl, rfl⟩ := H
  go_enter Tryz.func88, Tryz.ntmps88
  go_wp2
  go_ret
  exact ⟨pY, lW, lY, lX⟩
 ·rw [if_neg c3] at H
  have Ja : decide (a1 ≤ 0) = false := decide_eq_false c3
  clear c3
  by_cases c4 : a1 ≤ 256
  ·rw [if_pos c4] at H
   have DY : decide (a1 ≤ 256) = true := decide_eq_true c4
   clear c4
   replace H := Option.bind_eq_some_iff.mp H
   obtain ⟨⟨t323, t324, t325⟩, A50, H⟩ := H
   try dsimp only at H
   have A5 := am A50
   clear A50
   by_cases c6 : a1 = 0
   ·rw [if_pos c6] at H
    exact absurd H gB
   ·rw [if_neg c6] at H
    have c6b0 : (a1 == 0) = false := beq_eq_false_iff_ne.mpr c6
    have c6b1 : (a1 != 0) = true := bne_iff_ne.mpr c6
    simp only [Option.some.injEq, Prod.mk.injEq] at H
    obtain ⟨rfl, rfl, rfl⟩ := H
    go_enter Tryz.func88, Tryz.ntmps88
    go_wp2_with (first | ((with_reducible refine aW (f := 127) rfl ?_); refine dU (some 14) rfl rfl Tryz.func127 dw rfl #[.pointer (some ⟨g, 0, none⟩)] rfl lV ?_; (with_reducible refine (gW.calls g ax gX gu t323 t324 t325 w0 _ ?side1 ?side2 A5.out).mono ?_); (case side1 => exact lW); (case side2 => exact lY); rintro e w7 ⟨rfl, hi, hb, hk⟩; refine ⟨_, rfl, ?_⟩; replace HK := am (aQ.trans lX hk (.inl rfl)); replace HB := am hb; replace HI0 := am hi; (try clear hb)))
    go_ret
    exact ⟨pY, lW, lY, lX⟩
  ·rw [if_neg c4] at H
   have DY : decide (a1 ≤ 256) = false := decide_eq_false c4
   clear c4
   replace H := Option.bind_eq_some_iff.mp H
   obtain ⟨⟨t326, t327, t328⟩, A80, H⟩ := H
   try dsimp only at H
   have A8 := am A80
   clear A80
   replace H := Option.bind_eq_some_iff.mp H
   obtain ⟨⟨t329, t330, t331⟩, A90, H⟩ := H
   try dsimp only at H
   have A9 := am A90
   clear A90
   replace H := Option.bind_eq_some_iff.mp H
   obtain ⟨⟨t332, t333, t334⟩, A100, H⟩ := H
   try dsimp only at H
   have A10 := am A100
   clear A100
   replace H := Option.bind_eq_some_iff.mp H
   obtain ⟨⟨t335, t336, t337⟩, A110, H⟩ := H
   try dsimp only at H
   have A11 := am A110
   clear A110
   by_cases c12 : a1 = 0
   ·rw [if_pos c12] at H
    exact absurd H gB
   ·rw [if_neg c12] at H
    have Dj : (a1 == 0) = false := beq_eq_false_iff_ne.mpr c12
    have c12b1 : (a1 != 0) = true := bne_iff_ne.mpr c12
    simp only [Option.some.injEq, Prod.mk.injEq] at H
    obtain ⟨rfl, rfl, rfl⟩ := H
    go_enter Tryz.func88, Tryz.ntmps88
    go_wp2_with (first | ((with_reducible refine aW (f := 127) rfl ?_); refine dU (some 18) rfl rfl Tryz.func127 dw rfl #[.pointer (some ⟨g, 0, none⟩)] rfl lV ?_; (with_reducible refine (gW.calls g ax gX gu t326 t327 t328 w0 _ ?side1 ?side2 A8.out).mono ?_); (case side1 => exact lW); (case side2 => exact lY); rintro e w13 ⟨rfl, hi, hb, hk⟩; refine ⟨_, rfl, ?_⟩; replace HK := am (aQ.trans lX hk (.inl rfl)); replace HB := am hb; replace HI0 := am hi; (try clear hb)) | ((with_reducible refine aW (f := 127) rfl ?_); refine dU (some 20) rfl rfl Tryz.func127 dw rfl #[.pointer (some ⟨g, 0, none⟩)] rfl lV ?_; (with_reducible refine (gW.calls g ax t327 t328 t329 t330 t331 w0 _ ?side1 ?side2 A9.out).mono ?_); (case side1 => exact lW); (case side2 => exact lY); rintro e w14 ⟨rfl, hi, hb, hk⟩; refine ⟨_, rfl, ?_⟩; replace HK := am (aQ.trans lX hk (.inl rfl)); replace HB := am hb; replace HI0 := am hi; (try clear hb)) | ((with_reducible refine aW (f := 127) rfl ?_); refine dU (some 22) rfl rfl Tryz.func127 dw rfl #[.pointer (some ⟨g, 0, none⟩)] rfl lV ?_; (with_reducible refine (gW.calls g ax t330 t331 t332 t333 t334 w0 _ ?side1 ?side2 A10.out).mono ?_); (case side1 => exact lW); (case side2 => exact lY); rintro e w15 ⟨rfl, hi, hb, hk⟩; refine ⟨_, rfl, ?_⟩; replace HK := am (aQ.trans lX hk (.inl rfl)); replace HB := am hb; replace HI0 := am hi; (try clear hb)) | ((with_reducible refine aW (f := 127) rfl ?_); refine dU (some 24) rfl rfl Tryz.func127 dw rfl #[.pointer (some ⟨g, 0, none⟩)] rfl lV ?_; (with_reducible refine (gW.calls g ax t333 t334 t335 t336 t337 w0 _ ?side1 ?side2 A11.out).mono ?_); (case side1 => exact lW); (case side2 => exact lY); rintro e w16 ⟨rfl, hi, hb, hk⟩; refine ⟨_, rfl, ?_⟩; replace HK := am (aQ.trans lX hk (.inl rfl)); replace HB := am hb; replace HI0 := am hi; (try clear hb)))
    go_ret
    exact ⟨pY, lW, lY, lX⟩
set_option maxHeartbeats 8000000 in
set_option maxRecDepth 100000 in
theorem fQ.calls (g : Nat) (ax : List Int) (gX : Int) (gu : Int) (a1 : Int) (r1 : Bool) (r2 : Int) (r3 : Int) (w0 w : World) (hI : aG w0 w g ax gX gu) (hB : Below w0.heap.size w0 w) (h : fQ.f ax gX gu a1 = some (r1, r2, r3)) :
  Calls Tryz.prog 86 #[.pointer (some ⟨g, 0, none⟩), .int .i64 a1] w fun e w' => e = .returned (.bool r1) ∧ aG w0 w' g ax r2 r3 ∧ Below w0.heap.size w0 w' ∧ aQ w w' g none := by
 have HI0 := am hI
 have HK := am (aQ.refl w g none)
 have HL := am hB.size
 clear hI
 have HW0 := am hB.size
 have HB := am hB
 clear hB
 have H : ((az.f ax gX gu a1).bind fun II => (some ((II.1 == 0), II.2.1, II.2.2))) = some (r1, r2, r3) := h
 clear h
 replace H := Option.bind_eq_some_iff.mp H
 obtain ⟨⟨t338, t339, t340⟩, yl, H⟩ := H
 try dsimp only at H
 have A3 := am yl
 clear yl
 simp only [Option.some.injEq, Prod.mk.injEq] at H
 obtain ⟨rfl, rfl, rfl⟩ := H
 go_enter Tryz.func86, Tryz.ntmps86
 go_wp2_with (first | ((with_reducible refine aW (f := 88) rfl ?_); refine dU (some 7) rfl rfl Tryz.func88 dw rfl #[.pointer (some ⟨g, 0, none⟩), .int .i64 a1] rfl lV ?_; (with_reducible refine (az.calls g ax gX gu a1 t338 t339 t340 w0 _ ?side1 ?side2 A3.out).mono ?_); (case side1 => exact lW); (case side2 => exact lY); rintro e w4 ⟨rfl, hi, hb, hk⟩; refine ⟨_, rfl, ?_⟩; replace HK := am (aQ.trans lX hk (.inl rfl)); replace HB := am hb; replace HI0 := am hi; (try clear hb)))
 go_ret
 exact ⟨pY, lW, lY, lX⟩
set_option maxHeartbeats 8000000 in
set_option maxRecDepth 100000 in
theorem cO.calls (g : Nat) (ax : List Int) (gX : Int) (gu : Int) (A1 : Option Addr) (c1 : Nat) (l1 : List ByteArray) (r1 : ByteArray) (r2 : Int) (r3 : Int) (w0 w : World) (hI : aG w0 w g ax gX gu) (hB : Below w0.heap.size w0 w) (hr1 : Kd.C Kd.string w A1 l1.length l1) (hc1 : l1.length ≤ c1) (hf1 : ∀ ad, A1 = some ad → 0 < l1.length → ad.block ≠ g) (h : cO.f ax gX gu l1 = some (r1, r2, r3)) :
  Calls Tryz.prog 87 #[.pointer (some ⟨g, 0, none⟩), .slice A1 l1.length c1] w fun e w' => e = .returned (.string r1) ∧ aG w0 w' g ax r2 r3 ∧ Below w0.heap.size w0 w' ∧ aQ w w' g none := by
 have HR1 := am hr1
 have HC1 := am hc1
 clear hr1 hc1
 have HI0 := am hI
 have HK := am (aQ.refl w g none)
 have HL := am hB.size
 clear hI
 have HW0 := am hB.size
 have HB := am hB
 clear hB
 have H : ((az.f ax gX gu (l1.length : Int)).bind fun zH => (if 0 ≤ zH.1 then (if zH.1 < (l1.length : Int) then (some (iE ByteArray.empty l1 zH.1, zH.2.1, zH.2.2)) else (none)) else (none))) = some (r1, r2, r3) := h
 clear h
 replace H := Option.bind_eq_some_iff.mp H
 obtain ⟨⟨OO, t342, t343⟩, yl, H⟩ := H
 try dsimp only at H
 have A3 := am yl
 clear yl
 by_cases c4 : 0 ≤ OO
 ·rw [if_pos c4] at H
  have DY : decide (0 ≤ OO) = true := decide_eq_true c4
  clear c4
  by_cases c5 : OO < (l1.length : Int)
  ·rw [if_pos c5] at H
   have V6 : decide (OO < (l1.length : Int)) = true := decide_eq_true c5
   clear c5
   simp only [Option.some.injEq, Prod.mk.injEq] at H
   obtain ⟨rfl, rfl, rfl⟩ := H
   go_enter Tryz.func87, Tryz.ntmps87
   go_wp2_with (first | ((with_reducible refine aW (f := 88) rfl ?_); refine dU (some 9) rfl rfl Tryz.func88 dw rfl #[.pointer (some ⟨g, 0, none⟩), .int .i64 (l1.length : Int)] rfl lV ?_; (with_reducible refine (az.calls g ax gX gu (l1.length : Int) OO t342 t343 w0 _ ?side1 ?side2 A3.out).mono ?_); (case side1 => exact lW); (case side2 => exact lY); rintro e w6 ⟨rfl, hi, hb, hk⟩; refine ⟨_, rfl, ?_⟩; replace HK := am (aQ.trans lX hk (.inl rfl)); replace HB := am hb; replace HI0 := am hi; (try clear hb); have p344 : 0 ≤ (OO : Int) := of_decide_eq_true kJ; have q344 : OO < (l1.length : Int) := of_decide_eq_true kJ; obtain ⟨ad344, e344, UA⟩ := Kd.xI HR1.out OO p344 q344; cases e344; replace UA := Ad HK.out UA (by first | (rw [add_block]; exact hf1 _ rfl mY) | exact hf1 _ rfl mY | exact hf1 ad344 rfl mY); replace p344 := eq_true p344; replace q344 := eq_true q344))
   go_ret
   exact ⟨pY, lW, lY, lX⟩
  ·rw [if_neg c5] at H
   exact absurd H gB
 ·rw [if_neg c4] at H
  exact absurd H gB
set_option maxHeartbeats 8000000 in
set_option maxRecDepth 100000 in
theorem di.calls (g : Nat) (ax : List Int) (gX : Int) (gu : Int) (A1 : Option Addr) (c1 : Nat) (l1 : List Int) (r1 : Int) (r2 : Int) (r3 : Int) (w0 w : World) (hI : aG w0 w g ax gX gu) (hB : Below w0.heap.size w0 w) (hr1 : Kd.C (Kd.int .i64) w A1 l1.length l1) (hc1 : l1.length ≤ c1) (hf1 : ∀ ad, A1 = some ad → 0 < l1.length → ad.block ≠ g) (h : di.f ax gX gu l1 = some (r1, r2, r3)) :
  Calls Tryz.prog 138 #[.pointer (some ⟨g, 0, none⟩), .slice A1 l1.length c1] w fun e w' => e = .returned (.int .i64 r1) ∧ aG w0 w' g ax r2 r3 ∧ Below w0.heap.size w0 w' ∧ aQ w w' g none := by
 have HR1 := am hr1
 have HC1 := am hc1
 clear hr1 hc1
 have HI0 := am hI
 have HK := am (aQ.refl w g none)
 have HL := am hB.size
 clear hI
 have HW0 := am hB.size
 have HB := am hB
 clear hB
 have H : ((az.f ax gX gu (l1.length : Int)).bind fun zI => (if 0 ≤ zI.1 then (if zI.1 < (l1.length : Int) then (some (rd l1 zI.1, zI.2.1, zI.2.2)) else (none)) else (none))) = some (r1, r2, r3) := h
 clear h
 replace H := Option.bind_eq_some_iff.mp H
 obtain ⟨⟨OQ, t346, t347⟩, yl, H⟩ := H
 try dsimp only at H
 have A3 := am yl
 clear yl
 by_cases c4 : 0 ≤ OQ
 ·rw [if_pos c4] at H
  have DY : decide (0 ≤ OQ) = true := decide_eq_true c4
  clear c4
  by_cases c5 : OQ < (l1.length : Int)
  ·rw [if_pos c5] at H
   have V6 : decide (OQ < (l1.length : Int)) = true := decide_eq_true c5
   clear c5
   simp only [Option.some.injEq, Prod.mk.injEq] at H
   obtain ⟨rfl, rfl, rfl⟩ := H
   go_enter Tryz.func138, Tryz.ntmps138
   go_wp2_with (first | ((with_reducible refine aW (f := 88) rfl ?_); refine dU (some 9) rfl rfl Tryz.func88 dw rfl #[.pointer (some ⟨g, 0, none⟩), .int .i64 (l1.length : Int)] rfl lV ?_; (with_reducible refine (az.calls g ax gX gu (l1.length : Int) OQ t346 t347 w0 _ ?side1 ?side2 A3.out).mono ?_); (case side1 => exact lW); (case side2 => exact lY); rintro e w6 ⟨rfl, hi, hb, hk⟩; refine ⟨_, rfl, ?_⟩; replace HK := am (aQ.trans lX hk (.inl rfl)); replace HB := am hb; replace HI0 := am hi; (try clear hb); have p348 : 0 ≤ (OQ : Int) := of_decide_eq_true kJ; have q348 : OQ < (l1.length : Int) := of_decide_eq_true kJ; obtain ⟨ad348, e348, UB⟩ := Kd.qy HR1.out OQ p348 q348; cases e348; replace UB := Ad HK.out UB (by first | (rw [add_block]; exact hf1 _ rfl mY) | exact hf1 _ rfl mY | exact hf1 ad348 rfl mY); replace p348 := eq_true p348; replace q348 := eq_true q348))
   go_ret
   exact ⟨pY, lW, lY, lX⟩
  ·rw [if_neg c5] at H
   exact absurd H gB
 ·rw [if_neg c4] at H
  exact absurd H gB
end Go.Proofs.YtieohddolkeegaaGreatDoor.G

end
