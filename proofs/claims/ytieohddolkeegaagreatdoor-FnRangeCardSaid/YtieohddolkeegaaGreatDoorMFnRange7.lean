/- A part of the proof that the law FnRange answers true at every input that its row speaks of. Conditions: the row's own. -/
import Derived.Test.YtieohddolkeegaaGreatDoorOpZ
import Derived.Test.YtieohddolkeegaaGreatDoorKFnRange1
import Derived.Test.YtieohddolkeegaaGreatDoorMFnRange5
import Derived.Test.YtieohddolkeegaaGreatDoorMFnRange6
import Derived.Test.YtieohddolkeegaaGreatDoorMFnRange2
import Derived.Test.YtieohddolkeegaaGreatDoorMFnRange4
import Derived.Test.YtieohddolkeegaaGreatDoorVMore
import Derived.Lib.Strings
import Derived.Laws.BitsLemmas
import Derived.Test.YtieohddolkeegaaGreatDoorKFnRange0
import Derived.Lib.ItoaNum
import Derived.Lib.SplitLaws
import Derived.Lib.Bytealg
section
namespace Go.Proofs.YtieohddolkeegaaGreatDoor.G
open Go.RowKit Go.Proofs.aA.aZ Go.Proofs.aA.jM Go.Proofs.aA.mW
attribute [local go_sem] qj ql uO uP o8 o9 qm qo
attribute [local go_sem high] Go.Proofs.YtieohddolkeegaaGreatDoor.G.sH Go.Proofs.YtieohddolkeegaaGreatDoor.G.sJ Go.Proofs.YtieohddolkeegaaGreatDoor.G.sK
set_option linter.unusedVariables false
set_option linter.unusedSimpArgs false
def af.T12 : Bool × List (List Nat × List Nat) := (true, [([], []), ([0], [0]), ([1], [1]), ([], []), ([3], [3]), ([4], [4]), ([2, 5], [2, 5]), ([6], [6]), ([], []), ([8], [8]), ([9], [9]), ([], []), ([11], [11]), ([12], [12]), ([13], [13]), ([10, 14, 7], [10, 14]), ([7, 15], [7, 15]), ([], []), ([17, 16, 15, 0, 1, 2, 3, 4, 5, 6, 7, 8, 9, 10, 11, 12, 13, 14, 15, 16, 17], [16, 17])])
def af.B12 : List Nat := [0, 1, 3, 0, 8, 24, 63, 127, 0, 256, 768, 0, 2048, 6144, 14336, 32767, 65535, 0, 262143]
theorem af.tab12 : tC .any (opsOf Tryz.f96 12) = af.T12 := by kernel_rfl
theorem af.ZX : uS af.T12.2 af.B12 = true := by kernel_rfl
set_option maxHeartbeats 8000000 in
set_option maxRecDepth 100000 in
theorem af.calls (k : Nat) (a0 : ByteArray) (r1 : ByteArray) (r2 : ByteArray) (r3 : Bool) (w : World) (hGE : cZ ji w) (hGM : cZ jU w) (hGT : cZ jb w) (h : af.f k a0 = some (r1, r2, r3)) :
  Calls Tryz.prog 96 #[.string a0] w fun e w' => e = .returned (.tuple #[.agg #[.string r1, .string r2], .bool r3]) ∧ Below w.heap.size w w' := by
 have hu67 := Tryz.underlying67
 have hu77 := Tryz.underlying77
 have HB := am (Below.refl w.heap.size w)
 have xu := am hGE
 clear hGE
 have xw := am hGM
 clear hGM
 have ve := am hGT
 clear hGT
 have H : ((strings_Split.f a0 (⟨#[46]⟩ : ByteArray)).bind fun jd => (if (jd.length : Int) > 2 then (some ((⟨#[]⟩ : ByteArray), (⟨#[]⟩ : ByteArray), false)) else (af.l0 k jd (([0, 0] : List Int)) jd (jd.length : Int) 0))) = some (r1, r2, r3) := h
 clear h
 replace H := Option.bind_eq_some_iff.mp H
 obtain ⟨jd, zU, H⟩ := H
 try dsimp only at H
 have A2 := am zU
 clear zU
 obtain ⟨y653, QF⟩ : ∃ y_ : List Int, y_ = (([0, 0] : List Int)) := ⟨_, rfl⟩
 replace H : (if (jd.length : Int) > 2 then (some ((⟨#[]⟩ : ByteArray), (⟨#[]⟩ : ByteArray), false)) else (af.l0 k jd y653 jd (jd.length : Int) 0)) = some (r1, r2, r3) := by first | (rw [QF]; with_reducible exact H) | (have rZ := (Option.bind_some _ _).symm.trans H; rw [QF]; with_reducible exact rZ) | (have rZ := (Option.bind_some _ _).symm.trans H; with_reducible exact rZ) | with_reducible exact H | (rw [QF]; exact H) | exact H
 have VA := am QF
 clear QF
 by_cases c3 : (jd.length : Int) > 2
 ·rw [if_pos c3] at H
  have Ja : decide (2 < (jd.length : Int)) = true := decide_eq_true c3
  have YU : decide (2 < jd.length) = true := decide_eq_true mY
  clear c3
  simp only [Option.some.injEq, Prod.mk.injEq] at H
  obtain ⟨rfl, rfl, rfl⟩ := H
  go_enter Tryz.func96, Tryz.ntmps96
  go_wp2_with (first | ((with_reducible refine jF (N := 2) rfl ?_); refine uk ?hg (N := 2) ?hd (cs := #[.string (⟨#[]⟩ : ByteArray), .string (⟨#[]⟩ : ByteArray)]) (t := 67) ?hr ?_; (case hd => rfl); (case hg => rfl); (case hr => exact oI); intro iO hg w4 hbox hb; have dh := am hbox; have GW649 := am ((by rw [hg]; exact (eP uA) : w.heap.size ≤ iO)); have ZY := am ((by rw [hg]; exact (eP uA) : w.heap.size ≤ iO)); replace HB := am (bK uA hb); clear hb hbox hg) | ((with_reducible refine aW (f := 47) rfl ?_); refine dU (some 10) rfl rfl Tryz.func47 dw rfl #[.string a0, .string (⟨#[46]⟩ : ByteArray)] rfl lV ?_; (with_reducible refine (strings_Split.calls a0 (⟨#[46]⟩ : ByteArray) jd _ ?side1 A2.out).mono ?_); (case side1 => exact cZ.below xw.out sS); rintro e w5 ⟨v651, rfl, ho0, hb⟩; refine ⟨_, rfl, ?_⟩; have EN := am (Kd.iT ho0 (eP sS)); replace dh := am (dI (g := iO) (o := .cells #[.string (⟨#[]⟩ : ByteArray), .string (⟨#[]⟩ : ByteArray)] 67 (0, 0)) (zB dh.out) hb); replace HB := am (bK sS hb); (try clear hb); (try clear ho0)) | ((with_reducible refine jF (N := 11) rfl ?_); refine Kd.su (Kd.int .i64) _ 3 ?hg (N := 11) ?hd (xs := ([0, 0] : List Int)) (inner := [.int .i64 0, .int .i64 0]) (ok := fun _ => True) (okp := fun _ => True) ?hr ?hp (fun _ hk => hk) trivial (Below.refl _ _) (Nat.le_refl _) gB ?_; (case hd => rfl); (case hg => rfl); (case hr => exact oI); (case hp => exact Vb); intro v654 w6 ho7 hb xH jf; clear xH jf; (first | rw [← VA.out] at ho7 | (simp only [Int.reduceToNat] at ho7; rw [← VA.out] at ho7)); replace EN := am (Kd.bQ (zR EN.out) hb); have HO655 := am (Kd.iT ho7 (eP sS)); replace dh := am (dI (g := iO) (o := .cells #[.string (⟨#[]⟩ : ByteArray), .string (⟨#[]⟩ : ByteArray)] 67 (0, 0)) (zB dh.out) hb); replace HB := am (bK sS hb); clear hb ho7; obtain ⟨Ao8, co8, eo8⟩ := Kd.iK EN.out; subst eo8; have hcz9_0 : w6.cell? ⟨iO, 0, none⟩ = some (.string (⟨#[]⟩ : ByteArray)) := bc dh.out 0; have hcz9_1 : w6.cell? ⟨iO, 1, none⟩ = some (.string (⟨#[]⟩ : ByteArray)) := bc dh.out 1; have hfz9_0 := aX dh.out 0; have hfz9_1 := aX dh.out 1))
  refine bodyPost_ret (yT rfl _ _ iO 67 #[.string (⟨#[]⟩ : ByteArray), .string (⟨#[]⟩ : ByteArray)] (0, 0) _ rfl (by (with_reducible repeat (first | refine qg ?_ _ | refine qh ?_ | refine qi ?_ _)); refine iU (cs := #[.string (⟨#[]⟩ : ByteArray), .string (⟨#[]⟩ : ByteArray)]) ?_ 1 _ rfl; (with_reducible repeat (first | refine qg ?_ _ | refine qh ?_ | refine qi ?_ _)); refine iU (cs := #[.string (⟨#[]⟩ : ByteArray), .string (⟨#[]⟩ : ByteArray)]) ?_ 0 _ rfl; (with_reducible repeat (first | refine qg ?_ _ | refine qh ?_ | refine qi ?_ _)); exact dh.out) Tryz.underlying67 rfl dw) rfl ?_
  exact ⟨pY, sS⟩
 ·rw [if_neg c3] at H
  have Ja : decide (2 < (jd.length : Int)) = false := decide_eq_false c3
  have YU : decide (2 < jd.length) = false := decide_eq_false mY
  clear c3
  have H' := am H
  clear H
  go_enter Tryz.func96, Tryz.ntmps96
  go_wp2_with (first | ((with_reducible refine jF (N := 2) rfl ?_); refine uk ?hg (N := 2) ?hd (cs := #[.string (⟨#[]⟩ : ByteArray), .string (⟨#[]⟩ : ByteArray)]) (t := 67) ?hr ?_; (case hd => rfl); (case hg => rfl); (case hr => exact oI); intro iO hg w10 hbox hb; have dh := am hbox; have GW649 := am ((by rw [hg]; exact (eP uA) : w.heap.size ≤ iO)); have ZY := am ((by rw [hg]; exact (eP uA) : w.heap.size ≤ iO)); replace HB := am (bK uA hb); clear hb hbox hg) | ((with_reducible refine aW (f := 47) rfl ?_); refine dU (some 10) rfl rfl Tryz.func47 dw rfl #[.string a0, .string (⟨#[46]⟩ : ByteArray)] rfl lV ?_; (with_reducible refine (strings_Split.calls a0 (⟨#[46]⟩ : ByteArray) jd _ ?side1 A2.out).mono ?_); (case side1 => exact cZ.below xw.out sS); rintro e w11 ⟨v651, rfl, ho0, hb⟩; refine ⟨_, rfl, ?_⟩; have EN := am (Kd.iT ho0 (eP sS)); replace dh := am (dI (g := iO) (o := .cells #[.string (⟨#[]⟩ : ByteArray), .string (⟨#[]⟩ : ByteArray)] 67 (0, 0)) (zB dh.out) hb); replace HB := am (bK sS hb); (try clear hb); (try clear ho0)) | ((with_reducible refine jF (N := 11) rfl ?_); refine Kd.su (Kd.int .i64) _ 3 ?hg (N := 11) ?hd (xs := ([0, 0] : List Int)) (inner := [.int .i64 0, .int .i64 0]) (ok := fun _ => True) (okp := fun _ => True) ?hr ?hp (fun _ hk => hk) trivial (Below.refl _ _) (Nat.le_refl _) gB ?_; (case hd => rfl); (case hg => rfl); (case hr => exact oI); (case hp => exact Vb); intro v654 w12 GZ hb xH jf; clear xH jf; (first | rw [← VA.out] at GZ | (simp only [Int.reduceToNat] at GZ; rw [← VA.out] at GZ)); replace EN := am (Kd.bQ (zR EN.out) hb); have HO655 := am (Kd.iT GZ (eP sS)); replace dh := am (dI (g := iO) (o := .cells #[.string (⟨#[]⟩ : ByteArray), .string (⟨#[]⟩ : ByteArray)] 67 (0, 0)) (zB dh.out) hb); replace HB := am (bK sS hb); clear hb GZ; obtain ⟨G5, G6, eo14⟩ := Kd.iK EN.out; subst eo14))
  go_loopg [18] k (fun kq v18 w' => ∃ (dH : List Int) (ig : Int) (gq : ByteArray) (gI : ByteArray), v18 = .int .i64 ig ∧ dC (af.l0 kq jd dH jd (jd.length : Int) ig = some (r1, r2, r3)) ∧ dC (kq ≤ k) ∧ dC (Kd.R Kd.string 9 w' w.heap.size (fun _ => True) (.slice G5 jd.length G6) jd) ∧ dC (Kd.R (Kd.int .i64) 3 w' w.heap.size (fun _ => True) v654 dH) ∧ dC (Kd.R Kd.string 9 w' w.heap.size (fun _ => True) (.slice G5 jd.length G6) jd) ∧ dC (w'.heap[iO]? = some (.cells #[.string gq, .string gI] 67 (0, 0))) ∧ dC (Below w.heap.size w w'))
  case atStart => exact ⟨(y653), (0), ((⟨#[]⟩ : ByteArray)), ((⟨#[]⟩ : ByteArray)), oH, H', ⟨Nat.le_refl _⟩, ⟨(zR EN.out)⟩, ⟨(zR HO655.out)⟩, ⟨(zR EN.out)⟩, ⟨(zB dh.out)⟩, ⟨sS⟩⟩
  case round =>
   clear H'
   try clear p2
   try clear c3
   try clear Ja
   try clear YU
   try clear c4
   try clear c9
   try clear hcz9_0
   try clear hcz9_1
   try clear hfz9_0
   try clear hfz9_1
   obtain ⟨dH, ig, gq, gI, rfl, HA, Ql, iV, fV, iF, dh, HB⟩ := hrel
   cases gk with
   | zero => exact absurd HA.out (by simp [af.l0])
   | succ k1 =>
    have H := HA.out
    clear HA
    simp only [af.l0] at H
    by_cases c15 : ig < (jd.length : Int)
    ·rw [if_pos c15] at H
     have c15b0 : decide (ig < (jd.length : Int)) = true := decide_eq_true c15
     clear c15
     by_cases c16 : 0 ≤ ig
     ·rw [if_pos c16] at H
      have UW : decide (0 ≤ ig) = true := decide_eq_true c16
      clear c16
      by_cases c17 : ig < (jd.length : Int)
      ·rw [if_pos c17] at H
       have c17b0 : decide (ig < (jd.length : Int)) = true := decide_eq_true c17
       clear c17
       replace H := Option.bind_eq_some_iff.mp H
       obtain ⟨MF, A180, H⟩ := H
       try dsimp only at H
       have A18 := am A180
       clear A180
       by_cases c19 : ig < (dH.length : Int)
       ·rw [if_pos c19] at H
        have c19b0 : decide (ig < (dH.length : Int)) = true := decide_eq_true c19
        clear c19
        obtain ⟨Ei, QG⟩ : ∃ y_ : List Int, y_ = (dH.set (ig : Int).toNat MF) := ⟨_, rfl⟩
        replace H : (if (rd Ei ig) < 0 then (some ((⟨#[]⟩ : ByteArray), (⟨#[]⟩ : ByteArray), false)) else (af.l0 k1 jd Ei jd (jd.length : Int) (wrap64 (ig + 1)))) = some (r1, r2, r3) := by first | (rw [QG]; with_reducible exact H) | (have rZ := (Option.bind_some _ _).symm.trans H; rw [QG]; with_reducible exact rZ) | (have rZ := (Option.bind_some _ _).symm.trans H; with_reducible exact rZ) | with_reducible exact H | (rw [QG]; exact H) | exact H
        have VB := am QG
        clear QG
        by_cases c21 : (rd Ei ig) < 0
        ·rw [if_pos c21] at H
         have YL : decide ((rd Ei ig) < 0) = true := decide_eq_true c21
         clear c21
         simp only [Option.some.injEq, Prod.mk.injEq] at H
         obtain ⟨rfl, rfl, rfl⟩ := H
         have SQ : 0 ≤ (ig : Int) := of_decide_eq_true kJ
         have SS : ig < (jd.length : Int) := of_decide_eq_true kJ
         obtain ⟨ad656, e656, hx656_0⟩ := Kd.xI (Kd.eG iF.out).2.2 ig SQ SS
         cases e656
         replace SQ := eq_true SQ
         replace SS := eq_true SS
         go_wp2_with (first | ((with_reducible refine aW (f := 104) rfl ?_); refine dU (some 26) rfl rfl Tryz.func104 dw rfl #[.string (iE ByteArray.empty jd ig)] rfl lV ?_; (with_reducible refine (dm.calls (iE ByteArray.empty jd ig) MF _ ?side1 ?side2 A18.out).mono ?_); (case side1 => exact cZ.below xu.out sS); (case side2 => exact cZ.below ve.out sS); rintro e w22 ⟨rfl, hb⟩; refine ⟨_, rfl, ?_⟩; replace iV := am (Kd.bQ (zR iV.out) hb); replace fV := am (Kd.bQ (zR fV.out) hb); replace iF := am (Kd.bQ (zR iF.out) hb); replace dh := am (dI (g := iO) (o := .cells #[.string gq, .string gI] 67 (0, 0)) (zB dh.out) hb); replace HB := am (bK sS hb); (try clear hb); have p20 : 0 ≤ (ig : Int) := of_decide_eq_true kJ; have q20 : (ig : Int) < ((dH.length : Int) : Int) := of_decide_eq_true kJ; obtain ⟨FB, Pn, SL, ZZ, gl20, cl20, Z4⟩ := Kd.NK fV.out mY; (first | cases SL | (injection SL with Ux en_ ec_; (first | subst Ux | (injection Ux with Ux; subst Ux)); subst ec_; clear en_)); have GB20 := am ZZ; have GG20 := am Z4; clear ZZ gl20 Z4; obtain ⟨hx20_0, hf20_0⟩ := Kd.Hl 0 fV.out (ig : Int) p20 q20; replace p20 := eq_true p20; replace q20 := eq_true q20; obtain ⟨hy23_, hz23_⟩ := Kd.Hl 0 fV.out (ig : Int) (of_decide_eq_true kJ) (of_decide_eq_true kJ); have HP23 := Kd.Z5 fV.out (ig : Int) MF) | ((with_reducible refine Cb (t := 3) (p := 27) rfl ?_); refine AB (t := 3) (p := 27) (v := ?vo_w24) (w1 := (w22.setCell ⟨FB, (ig : Int).toNat, none⟩ (.int .i64 MF))) ?hg ?ho ?hn ?hr ?_; (case ho => rfl); (case hg => rfl); (case hn => rfl); (case hr => exact oI); intro w24 hw; have hg : w22.grownBy w24 (some FB) := (by rw [hw]; exact HP23.2); have hp_ : Kd.R (Kd.int .i64) 3 w24 w.heap.size (fun _ => True) (.slice (some ⟨FB, 0, none⟩) dH.length Pn) Ei := (by rw [hw, VB.out]; exact HP23.1); clear HP23; replace iV := am (Kd.uU (v := (.slice (some ⟨FB, 0, none⟩) dH.length Pn)) (zR iV.out) (Kd.uV fV.out) dY hg); replace iF := am (Kd.uU (v := (.slice (some ⟨FB, 0, none⟩) dH.length Pn)) (zR iF.out) (Kd.uV fV.out) dY hg); replace dh := am (nz (g := iO) (o := .cells #[.string gq, .string gI] 67 (0, 0)) (zB dh.out) hg (Kd.Bl fV.out dh.out dY)); replace fV := am hp_; replace HB := am ((by rw [hw]; exact jV (HB.out) GB20.out : Below w.heap.size w w24)); clear hg hw hp_; have SV : 0 ≤ (ig : Int) := of_decide_eq_true kJ; have SX : ig < (Ei.length : Int) := (by have h_ : (ig : Int) < ((dH.length : Int) : Int) := of_decide_eq_true kJ; first | (have e_ := (Kd.eG fV.out).1; omega) | simpa only [VB.out, List.length_set] using h_); have ql659 : ((ig : Int) < ((dH.length : Int) : Int)) = True := eq_true (of_decide_eq_true kJ); obtain ⟨Z7, e659, yU⟩ := Kd.qy (Kd.eG fV.out).2.2 ig SV SX; obtain rfl : (⟨FB, 0, none⟩ : Addr) = Z7 := (by injection e659); (first | simp only [add_plain] at yU | simp only [Z8] at yU | simp only [Addr.add, Nat.zero_add] at yU | skip); replace SV := eq_true SV; replace SX := eq_true SX; have hcz25_0 : w24.cell? ⟨iO, 0, none⟩ = some (.string gq) := bc dh.out 0; have hcz25_1 : w24.cell? ⟨iO, 1, none⟩ = some (.string gI) := bc dh.out 1; have hfz25_0 := aX dh.out 0; have hfz25_1 := aX dh.out 1))
         refine bodyPost_ret (yT rfl _ _ iO 67 #[.string (⟨#[]⟩ : ByteArray), .string (⟨#[]⟩ : ByteArray)] (0, 0) _ rfl (by (with_reducible repeat (first | refine qg ?_ _ | refine qh ?_ | refine qi ?_ _)); refine iU (cs := #[.string (⟨#[]⟩ : ByteArray), .string gI]) ?_ 1 _ rfl; (with_reducible repeat (first | refine qg ?_ _ | refine qh ?_ | refine qi ?_ _)); refine iU (cs := #[.string gq, .string gI]) ?_ 0 _ rfl; (with_reducible repeat (first | refine qg ?_ _ | refine qh ?_ | refine qi ?_ _)); exact dh.out) Tryz.underlying67 rfl dw) rfl ?_
         exact ⟨pY, sS⟩
        ·rw [if_neg c21] at H
         have YL : decide ((rd Ei ig) < 0) = false := decide_eq_false c21
         clear c21
         have H' := am H
         clear H
         have SQ : 0 ≤ (ig : Int) := of_decide_eq_true kJ
         have SS : ig < (jd.length : Int) := of_decide_eq_true kJ
         obtain ⟨ad656, e656, hx656_0⟩ := Kd.xI (Kd.eG iF.out).2.2 ig SQ SS
         cases e656
         replace SQ := eq_true SQ
         replace SS := eq_true SS
         go_wp2_with (first | ((with_reducible refine aW (f := 104) rfl ?_); refine dU (some 26) rfl rfl Tryz.func104 dw rfl #[.string (iE ByteArray.empty jd ig)] rfl lV ?_; (with_reducible refine (dm.calls (iE ByteArray.empty jd ig) MF _ ?side1 ?side2 A18.out).mono ?_); (case side1 => exact cZ.below xu.out sS); (case side2 => exact cZ.below ve.out sS); rintro e w26 ⟨rfl, hb⟩; refine ⟨_, rfl, ?_⟩; replace iV := am (Kd.bQ (zR iV.out) hb); replace fV := am (Kd.bQ (zR fV.out) hb); replace iF := am (Kd.bQ (zR iF.out) hb); replace dh := am (dI (g := iO) (o := .cells #[.string gq, .string gI] 67 (0, 0)) (zB dh.out) hb); replace HB := am (bK sS hb); (try clear hb); have p20 : 0 ≤ (ig : Int) := of_decide_eq_true kJ; have q20 : (ig : Int) < ((dH.length : Int) : Int) := of_decide_eq_true kJ; obtain ⟨FB, Pn, SL, ZZ, gl20, cl20, Z4⟩ := Kd.NK fV.out mY; (first | cases SL | (injection SL with Ux en_ ec_; (first | subst Ux | (injection Ux with Ux; subst Ux)); subst ec_; clear en_)); have GB20 := am ZZ; have GG20 := am Z4; clear ZZ gl20 Z4; obtain ⟨hx20_0, hf20_0⟩ := Kd.Hl 0 fV.out (ig : Int) p20 q20; replace p20 := eq_true p20; replace q20 := eq_true q20; obtain ⟨hy27_, hz27_⟩ := Kd.Hl 0 fV.out (ig : Int) (of_decide_eq_true kJ) (of_decide_eq_true kJ); have HP27 := Kd.Z5 fV.out (ig : Int) MF) | ((with_reducible refine Cb (t := 3) (p := 27) rfl ?_); refine AB (t := 3) (p := 27) (v := ?vo_w28) (w1 := (w26.setCell ⟨FB, (ig : Int).toNat, none⟩ (.int .i64 MF))) ?hg ?ho ?hn ?hr ?_; (case ho => rfl); (case hg => rfl); (case hn => rfl); (case hr => exact oI); intro w28 hw; have hg : w26.grownBy w28 (some FB) := (by rw [hw]; exact HP27.2); have hp_ : Kd.R (Kd.int .i64) 3 w28 w.heap.size (fun _ => True) (.slice (some ⟨FB, 0, none⟩) dH.length Pn) Ei := (by rw [hw, VB.out]; exact HP27.1); clear HP27; replace iV := am (Kd.uU (v := (.slice (some ⟨FB, 0, none⟩) dH.length Pn)) (zR iV.out) (Kd.uV fV.out) dY hg); replace iF := am (Kd.uU (v := (.slice (some ⟨FB, 0, none⟩) dH.length Pn)) (zR iF.out) (Kd.uV fV.out) dY hg); replace dh := am (nz (g := iO) (o := .cells #[.string gq, .string gI] 67 (0, 0)) (zB dh.out) hg (Kd.Bl fV.out dh.out dY)); replace fV := am hp_; replace HB := am ((by rw [hw]; exact jV (HB.out) GB20.out : Below w.heap.size w w28)); clear hg hw hp_; have SV : 0 ≤ (ig : Int) := of_decide_eq_true kJ; have SX : ig < (Ei.length : Int) := (by have h_ : (ig : Int) < ((dH.length : Int) : Int) := of_decide_eq_true kJ; first | (have e_ := (Kd.eG fV.out).1; omega) | simpa only [VB.out, List.length_set] using h_); have ql659 : ((ig : Int) < ((dH.length : Int) : Int)) = True := eq_true (of_decide_eq_true kJ); obtain ⟨Z7, e659, yU⟩ := Kd.qy (Kd.eG fV.out).2.2 ig SV SX; obtain rfl : (⟨FB, 0, none⟩ : Addr) = Z7 := (by injection e659); (first | simp only [add_plain] at yU | simp only [Z8] at yU | simp only [Addr.add, Nat.zero_add] at yU | skip); replace SV := eq_true SV; replace SX := eq_true SX))
         go_roundg k1
         case measure => have := Ql.out; omega
         case rel => exact ⟨(Ei), (wrap64 (ig + 1)), (gq), (gI), oH, H', ⟨by have := Ql.out; omega⟩, ⟨(zR iV.out)⟩, ⟨(zR fV.out)⟩, ⟨(zR iF.out)⟩, ⟨(zB dh.out)⟩, ⟨sS⟩⟩
       ·rw [if_neg c19] at H
        exact absurd H gB
      ·rw [if_neg c17] at H
       exact absurd H gB
     ·rw [if_neg c16] at H
      exact absurd H gB
    ·rw [if_neg c15] at H
     have c15b0 : decide (ig < (jd.length : Int)) = false := decide_eq_false c15
     clear c15
     by_cases c29 : 0 < (dH.length : Int)
     ·rw [if_pos c29] at H
      have c29b0 : decide (0 < (dH.length : Int)) = true := decide_eq_true c29
      have c29b1 : decide (0 < dH.length) = true := decide_eq_true mY
      clear c29
      by_cases OC : 1 < (dH.length : Int)
      ·rw [if_pos OC] at H
       have c30b0 : decide (1 < (dH.length : Int)) = true := decide_eq_true OC
       have c30b1 : decide (1 < dH.length) = true := decide_eq_true mY
       clear OC
       replace H := Option.bind_eq_some_iff.mp H
       obtain ⟨wX, ZI, H⟩ := H
       try dsimp only at H
       have A31 := am ZI
       clear ZI
       replace H := Option.bind_eq_some_iff.mp H
       obtain ⟨yC, A320, H⟩ := H
       try dsimp only at H
       have A32 := am A320
       clear A320
       by_cases Vl : (jd.length : Int) = 1
       ·rw [if_pos Vl] at H
        have c33b0 : ((jd.length : Int) == 1) = true := beq_iff_eq.mpr Vl
        have c33b1 : ((jd.length : Int) != 1) = false := bne_eq_false_iff_eq.mpr Vl
        clear Vl
        replace H := Option.bind_eq_some_iff.mp H
        obtain ⟨t668, A340, H⟩ := H
        try dsimp only at H
        have A34 := am A340
        clear A340
        simp only [Option.some.injEq, Prod.mk.injEq] at H
        obtain ⟨rfl, rfl, rfl⟩ := H
        try go_wp2
        replace iV := am (Kd.pM iV.out)
        replace fV := am (Kd.pM fV.out)
        replace iF := am (Kd.pM iF.out)
        replace dh := am (vH dh.out)
        replace HB := am (dQ HB.out)
        obtain ⟨Ao36, co36, eo36⟩ := Kd.iK fV.out
        (first | subst eo36 | (injection eo36 with I4 Qw I5; have Qx := I4.symm; have Qy := I5.symm; clear I4 Qw I5; subst Qx; subst Qy))
        have SY : 0 ≤ (0 : Int) := mY
        have S9 : 0 < (dH.length : Int) := of_decide_eq_true kJ
        obtain ⟨iy, e660, uZ⟩ := Kd.qy (Kd.eG fV.out).2.2 0 SY S9
        cases e660
        have qi660 : (0 < dH.length) = True := eq_true mY
        (try rw [show ((0 : Int)).toNat = 0 from rfl] at uZ)
        (try rw [Addr.add_zero'] at uZ)
        replace SY := eq_true SY
        replace S9 := eq_true S9
        have Si : 0 ≤ (1 : Int) := mY
        have Sj : 1 < (dH.length : Int) := of_decide_eq_true kJ
        obtain ⟨Z9, e661, uf⟩ := Kd.qy (Kd.eG fV.out).2.2 1 Si Sj
        obtain rfl : iy = Z9 := (by injection e661)
        (try simp only [show (1 : Int).toNat = 1 from rfl, Nat.reduceMul, Nat.reduceEqDiff, Go.Addr.add, ↓reduceIte] at uf)
        have qi661 : (1 < dH.length) = True := eq_true mY
        (try rw [show ((1 : Int)).toNat = 1 from rfl] at uf)
        replace Si := eq_true Si
        replace Sj := eq_true Sj
        have Sl : 0 ≤ (0 : Int) := mY
        have Sm : 0 < (dH.length : Int) := of_decide_eq_true kJ
        obtain ⟨Za, e663, ug⟩ := Kd.qy (Kd.eG fV.out).2.2 0 Sl Sm
        obtain rfl : iy = Za := (by injection e663)
        have qi663 : (0 < dH.length) = True := eq_true mY
        (try rw [show ((0 : Int)).toNat = 0 from rfl] at ug)
        (try rw [Addr.add_zero'] at ug)
        replace Sl := eq_true Sl
        replace Sm := eq_true Sm
        have Sr : 0 ≤ (1 : Int) := mY
        have Su : 1 < (dH.length : Int) := of_decide_eq_true kJ
        obtain ⟨Zb, e664, uh⟩ := Kd.qy (Kd.eG fV.out).2.2 1 Sr Su
        obtain rfl : iy = Zb := (by injection e664)
        (try simp only [show (1 : Int).toNat = 1 from rfl, Nat.reduceMul, Nat.reduceEqDiff, Go.Addr.add, ↓reduceIte] at uh)
        have qi664 : (1 < dH.length) = True := eq_true mY
        (try rw [show ((1 : Int)).toNat = 1 from rfl] at uh)
        replace Sr := eq_true Sr
        replace Su := eq_true Su
        refine Ej (n := 19) (S := fun w' => w'.cell? iy = some (.int .i64 (rd dH 0)) ∧ w'.cell? ⟨iy.block, iy.off + 1, none⟩ = some (.int .i64 (rd dH 1)) ∧ w'.cell? iy = some (.int .i64 (rd dH 0)) ∧ w'.cell? ⟨iy.block, iy.off + 1, none⟩ = some (.int .i64 (rd dH 1))) (ds := []) #[false, false, false, false, false, false, false, false, false, false, false, false, false, false, false, false, false, false, false] dw rfl rfl ⟨uZ, uf, ug, uh⟩ (fun hHeld => ?_); refine um af.tab12 af.ZX (fun uC Qu => ?_)
        generalize wr.drew = w35 at iV fV iF dh HB uZ uf ug uh hHeld ⊢
        refine pz 0 35 ?_
        refine pz 1 36 ?_
        refine pz 3 38 ?_
        refine pz 4 39 ?_
        refine pz 8 43 ?_
        refine pz 9 44 ?_
        refine pz 11 46 ?_
        refine pz 12 47 ?_
        refine BQ (i := 2) (N := some 37) (v := ?_) (a' := ?_) #[true, true, true, true, true, false, false, false, true, true, false, true, true, false, false, false, false, false, false] rfl rfl (pg uC.out Qu.out dw) (fun _ _ _ h => h) (Or.inl ⟨by rfl, ?_⟩) hHeld ?_ ?_
        rotate_left
        ·rintro w' ⟨s0, s1, s2, s3⟩
         go_simp
         with_reducible rfl
        rotate_left
        ·simp only [Act.put, List.setIfInBounds_toArray, List.set_cons_zero, List.set_cons_succ, jG, jL]
         rfl
        refine BQ (i := 5) (N := some 40) (v := ?_) (a' := ?_) #[true, true, true, true, true, true, false, false, true, true, false, true, true, false, false, false, false, false, false] rfl rfl (pg uC.out Qu.out dw) (fun _ _ _ h => h) (Or.inl ⟨by rfl, ?_⟩) hHeld ?_ ?_
        rotate_left
        ·rintro w' ⟨s0, s1, s2, s3⟩
         go_simp
         with_reducible rfl
        rotate_left
        ·simp only [Act.put, List.setIfInBounds_toArray, List.set_cons_zero, List.set_cons_succ, jG, jL]
         rfl
        refine pz 6 41 ?_
        refine BQ (i := 10) (N := some 45) (v := ?_) (a' := ?_) #[true, true, true, true, true, true, true, false, true, true, true, true, true, false, false, false, false, false, false] rfl rfl (pg uC.out Qu.out dw) (fun _ _ _ h => h) (Or.inl ⟨by rfl, ?_⟩) hHeld ?_ ?_
        rotate_left
        ·rintro w' ⟨s0, s1, s2, s3⟩
         go_simp
         with_reducible rfl
        rotate_left
        ·simp only [Act.put, List.setIfInBounds_toArray, List.set_cons_zero, List.set_cons_succ, jG, jL]
         rfl
        refine BQ (i := 13) (N := some 48) (v := ?_) (a' := ?_) #[true, true, true, true, true, true, true, false, true, true, true, true, true, true, false, false, false, false, false] rfl rfl (pg uC.out Qu.out dw) (fun _ _ _ h => h) (Or.inl ⟨by rfl, ?_⟩) hHeld ?_ ?_
        rotate_left
        ·rintro w' ⟨s0, s1, s2, s3⟩
         go_simp
         with_reducible rfl
        rotate_left
        ·simp only [Act.put, List.setIfInBounds_toArray, List.set_cons_zero, List.set_cons_succ, jG, jL]
         rfl
        refine pz 14 49 ?_
        refine join_ (σ := Nat) 1 #[true, true, true, true, true, true, true, true, true, true, true, true, true, true, true, true, true, true, false] (fun s_ => [(42, .string wX), (50, .string yC), (8, .pointer (some ⟨s_, 0, none⟩)), (51, .agg #[.string wX, .string yC])]) (fun s_ w' => (w'.cell? iy = some (.int .i64 (rd dH 0)) ∧ w'.cell? ⟨iy.block, iy.off + 1, none⟩ = some (.int .i64 (rd dH 1)) ∧ w'.cell? iy = some (.int .i64 (rd dH 0)) ∧ w'.cell? ⟨iy.block, iy.off + 1, none⟩ = some (.int .i64 (rd dH 1))) ∧ (Kd.R Kd.string 9 w' w.heap.size (fun _ => True) (.slice G5 jd.length G6) jd) ∧ (Kd.R Kd.string 9 w' w.heap.size (fun _ => True) (.slice G5 jd.length G6) jd) ∧ (Kd.R (Kd.int .i64) 3 w' w.heap.size (fun _ => True) (.slice (some iy) dH.length co36) dH) ∧ (w'.heap[iO]? = some (.cells #[.string gq, .string gI] 67 (0, 0))) ∧ (w'.heap[s_]? = some (.cells #[.string (⟨#[]⟩ : ByteArray), .string (⟨#[]⟩ : ByteArray)] 67 (0, 0))) ∧ (w.heap.size ≤ s_) ∧ (w.heap.size ≤ s_) ∧ (iO ≠ s_) ∧ (s_ ≠ iO) ∧ (Below w.heap.size w w')) ?_ ?_
        rotate_left
        ·intro JC
         refine two_ (i := 7) (j := 17) (Ni := some 42) (Nj := some 8) #[true, true, true, true, true, true, true, true, true, true, true, true, true, true, true, false, false, false, false] #[true, true, true, true, true, true, true, false, true, true, true, true, true, true, true, false, false, true, false] rfl rfl rfl rfl (NS uC.out dw) dY dY (fun K hK => ?_) (fun K hK => ?_)
         ·skip
          refine wL Tryz.func105 dw rfl #[.agg #[.int .i64 (rd dH 0), .int .i64 (rd dH 1), .int .i64 0, .slice none 0 0]] (by rfl) rfl rfl lV ?_
          refine (bU.calls k1 (rd dH 0) (rd dH 1) 0 _ _ ([] : List ByteArray) wX _ ?side1 ?side2 ?side3 ?side4 ?side5 A31.out).mono ?_
          (case side1 => exact Kd.VC _ _)
          (case side2 => exact Nat.le_refl _)
          (case side3 => exact cZ.below xu.out sS)
          (case side4 => exact cZ.below xw.out sS)
          (case side5 => exact cZ.below ve.out sS)
          rintro e w37 ⟨rfl, hb⟩
          have qR := (hb.cell (World.block_lt_of_cell? _ _ (hHeld.1))).trans (hHeld.1)
          have qU := (hb.cell (World.block_lt_of_cell? _ _ (hHeld.2.1))).trans (hHeld.2.1)
          have qV := (hb.cell (World.block_lt_of_cell? _ _ (hHeld.2.2.1))).trans (hHeld.2.2.1)
          have qW := (hb.cell (World.block_lt_of_cell? _ _ (hHeld.2.2.2))).trans (hHeld.2.2.2)
          refine ⟨_, rfl, ?_⟩
          replace iV := am (Kd.bQ (zR iV.out) hb)
          replace fV := am (Kd.bQ (zR fV.out) hb)
          replace iF := am (Kd.bQ (zR iF.out) hb)
          replace dh := am (dI (g := iO) (o := .cells #[.string gq, .string gI] 67 (0, 0)) (zB dh.out) hb)
          replace HB := am (bK sS hb)
          (try clear hb)
          refine hK.out _ _ ⟨qR, qU, qV, qW⟩ (fun hHeld => ?_)
          clear hK K
          refine kM (a' := ?_) ?_ ?_
          rotate_left
          ·show Act.put _ (some 42) _ = _
           simp only [Act.put, List.setIfInBounds_toArray, List.set_cons_zero, List.set_cons_succ, jG, jL]
           rfl
          refine two_ (i := 15) (j := 17) (Ni := some 50) (Nj := some 8) #[true, true, true, true, true, true, true, true, true, true, true, true, true, true, true, true, false, false, false] #[true, true, true, true, true, true, true, true, true, true, true, true, true, true, true, false, false, true, false] rfl rfl rfl rfl (NS uC.out dw) dY dY (fun K hK => ?_) (fun K hK => ?_)
          ·skip
           refine wL Tryz.func95 dw rfl #[.int .i64 (rd dH 0), .int .i64 (wrap64 ((rd dH 1) + 1)), .int .i64 0] (by rfl) rfl rfl lV ?_
           with_reducible refine (dM.calls k1 (rd dH 0) (wrap64 ((rd dH 1) + 1)) 0 yC _ ?side1 ?side2 ?side3 A32.out).mono ?_
           (case side1 => exact cZ.below xu.out sS)
           (case side2 => exact cZ.below xw.out sS)
           (case side3 => exact cZ.below ve.out sS)
           rintro e w38 ⟨rfl, hb⟩
           have qR := (hb.cell (World.block_lt_of_cell? _ _ (hHeld.1))).trans (hHeld.1)
           have qU := (hb.cell (World.block_lt_of_cell? _ _ (hHeld.2.1))).trans (hHeld.2.1)
           have qV := (hb.cell (World.block_lt_of_cell? _ _ (hHeld.2.2.1))).trans (hHeld.2.2.1)
           have qW := (hb.cell (World.block_lt_of_cell? _ _ (hHeld.2.2.2))).trans (hHeld.2.2.2)
           refine ⟨_, rfl, ?_⟩
           replace iV := am (Kd.bQ (zR iV.out) hb)
           replace fV := am (Kd.bQ (zR fV.out) hb)
           replace iF := am (Kd.bQ (zR iF.out) hb)
           replace dh := am (dI (g := iO) (o := .cells #[.string gq, .string gI] 67 (0, 0)) (zB dh.out) hb)
           replace HB := am (bK sS hb)
           (try clear hb)
           refine hK.out _ _ ⟨qR, qU, qV, qW⟩ (fun hHeld => ?_)
           clear hK K
           refine kM (a' := ?_) ?_ ?_
           rotate_left
           ·show Act.put _ (some 50) _ = _
            simp only [Act.put, List.setIfInBounds_toArray, List.set_cons_zero, List.set_cons_succ, jG, jL]
            rfl
           refine pz 16 51 ?_
           refine vg (i := 17) (N := some 8) #[true, true, true, true, true, true, true, true, true, true, true, true, true, true, true, true, true, true, false] rfl rfl (lG uC.out dw) dY (fun K hK => ?_)
           refine xe ?hg (N := 8) ?hd (cs := #[.string (⟨#[]⟩ : ByteArray), .string (⟨#[]⟩ : ByteArray)]) (t := 67) ?hr ?_; (case hd => rfl); (case hg => rfl); (case hr => exact oI)
           intro fH hg w39 hbox hb
           have qR := (hb.cell (World.block_lt_of_cell? _ _ (hHeld.1))).trans (hHeld.1)
           have qU := (hb.cell (World.block_lt_of_cell? _ _ (hHeld.2.1))).trans (hHeld.2.1)
           have qV := (hb.cell (World.block_lt_of_cell? _ _ (hHeld.2.2.1))).trans (hHeld.2.2.1)
           have qW := (hb.cell (World.block_lt_of_cell? _ _ (hHeld.2.2.2))).trans (hHeld.2.2.2)
           replace iV := am (Kd.bQ (zR iV.out) hb)
           replace fV := am (Kd.bQ (zR fV.out) hb)
           replace iF := am (Kd.bQ (zR iF.out) hb)
           have iW := am hbox
           have xg := am ((by rw [hg]; exact (eP sS) : w.heap.size ≤ fH))
           have wR := am ((by rw [hg]; exact (eP sS) : w.heap.size ≤ fH))
           replace HB := am (bK sS hb)
           have iM := am ((by rw [hg]; exact Nat.ne_of_lt (lZ (g := iO) (o := .cells #[.string gq, .string gI] 67 (0, 0)) (zB dh.out)) : iO ≠ fH))
           have jO := am ((by rw [hg]; exact Nat.ne_of_gt (lZ (g := iO) (o := .cells #[.string gq, .string gI] 67 (0, 0)) (zB dh.out)) : fH ≠ iO))
           replace dh := am (dI (g := iO) (o := .cells #[.string gq, .string gI] 67 (0, 0)) (zB dh.out) hb)
           clear hb hbox hg
           refine hK.out _ _ ⟨qR, qU, qV, qW⟩ (fun hHeld => ?_)
           clear hK K
           refine kM (a' := ?_) ?_ ?_
           rotate_left
           ·show Act.put _ (some 8) _ = _
            simp only [Act.put, List.setIfInBounds_toArray, List.set_cons_zero, List.set_cons_succ, jG, jL]
            rfl
           exact kM Wn (JC (fH) _ ⟨hHeld, (zR iF.out), (zR iV.out), (zR fV.out), (zB dh.out), (zB iW.out), xg.out, wR.out, iM.out, jO.out, zF⟩)
          ·skip
           refine xe ?hg (N := 8) ?hd (cs := #[.string (⟨#[]⟩ : ByteArray), .string (⟨#[]⟩ : ByteArray)]) (t := 67) ?hr ?_; (case hd => rfl); (case hg => rfl); (case hr => exact oI)
           intro fH hg w38 hbox hb
           have qR := (hb.cell (World.block_lt_of_cell? _ _ (hHeld.1))).trans (hHeld.1)
           have qU := (hb.cell (World.block_lt_of_cell? _ _ (hHeld.2.1))).trans (hHeld.2.1)
           have qV := (hb.cell (World.block_lt_of_cell? _ _ (hHeld.2.2.1))).trans (hHeld.2.2.1)
           have qW := (hb.cell (World.block_lt_of_cell? _ _ (hHeld.2.2.2))).trans (hHeld.2.2.2)
           replace iV := am (Kd.bQ (zR iV.out) hb)
           replace fV := am (Kd.bQ (zR fV.out) hb)
           replace iF := am (Kd.bQ (zR iF.out) hb)
           have iW := am hbox
           have xg := am ((by rw [hg]; exact (eP sS) : w.heap.size ≤ fH))
           have wR := am ((by rw [hg]; exact (eP sS) : w.heap.size ≤ fH))
           replace HB := am (bK sS hb)
           have iM := am ((by rw [hg]; exact Nat.ne_of_lt (lZ (g := iO) (o := .cells #[.string gq, .string gI] 67 (0, 0)) (zB dh.out)) : iO ≠ fH))
           have jO := am ((by rw [hg]; exact Nat.ne_of_gt (lZ (g := iO) (o := .cells #[.string gq, .string gI] 67 (0, 0)) (zB dh.out)) : fH ≠ iO))
           replace dh := am (dI (g := iO) (o := .cells #[.string gq, .string gI] 67 (0, 0)) (zB dh.out) hb)
           clear hb hbox hg
           refine hK.out _ _ ⟨qR, qU, qV, qW⟩ (fun hHeld => ?_)
           clear hK K
           refine kM (a' := ?_) ?_ ?_
           rotate_left
           ·show Act.put _ (some 8) _ = _
            simp only [Act.put, List.setIfInBounds_toArray, List.set_cons_zero, List.set_cons_succ, jG, jL]
            rfl
           refine vg (i := 15) (N := some 50) #[true, true, true, true, true, true, true, true, true, true, true, true, true, true, true, true, false, true, false] rfl rfl (lG uC.out dw) dY (fun K hK => ?_)
           refine wL Tryz.func95 dw rfl #[.int .i64 (rd dH 0), .int .i64 (wrap64 ((rd dH 1) + 1)), .int .i64 0] (by rfl) rfl rfl lV ?_
           with_reducible refine (dM.calls k1 (rd dH 0) (wrap64 ((rd dH 1) + 1)) 0 yC _ ?side1 ?side2 ?side3 A32.out).mono ?_
           (case side1 => exact cZ.below xu.out zF)
           (case side2 => exact cZ.below xw.out zF)
           (case side3 => exact cZ.below ve.out zF)
           rintro e w39 ⟨rfl, hb⟩
           have qR := (hb.cell (World.block_lt_of_cell? _ _ (hHeld.1))).trans (hHeld.1)
           have qU := (hb.cell (World.block_lt_of_cell? _ _ (hHeld.2.1))).trans (hHeld.2.1)
           have qV := (hb.cell (World.block_lt_of_cell? _ _ (hHeld.2.2.1))).trans (hHeld.2.2.1)
           have qW := (hb.cell (World.block_lt_of_cell? _ _ (hHeld.2.2.2))).trans (hHeld.2.2.2)
           refine ⟨_, rfl, ?_⟩
           replace iV := am (Kd.bQ (zR iV.out) hb)
           replace fV := am (Kd.bQ (zR fV.out) hb)
           replace iF := am (Kd.bQ (zR iF.out) hb)
           replace dh := am (dI (g := iO) (o := .cells #[.string gq, .string gI] 67 (0, 0)) (zB dh.out) hb)
           replace iW := am (dI (g := fH) (o := .cells #[.string (⟨#[]⟩ : ByteArray), .string (⟨#[]⟩ : ByteArray)] 67 (0, 0)) (zB iW.out) hb)
           replace HB := am (bK zF hb)
           (try clear hb)
           refine hK.out _ _ ⟨qR, qU, qV, qW⟩ (fun hHeld => ?_)
           clear hK K
           refine kM (a' := ?_) ?_ ?_
           rotate_left
           ·show Act.put _ (some 50) _ = _
            simp only [Act.put, List.setIfInBounds_toArray, List.set_cons_zero, List.set_cons_succ, jG, jL]
            rfl
           refine pz 16 51 ?_
           exact kM Wn (JC (fH) _ ⟨hHeld, (zR iF.out), (zR iV.out), (zR fV.out), (zB dh.out), (zB iW.out), xg.out, wR.out, iM.out, jO.out, zF⟩)
         ·skip
          refine xe ?hg (N := 8) ?hd (cs := #[.string (⟨#[]⟩ : ByteArray), .string (⟨#[]⟩ : ByteArray)]) (t := 67) ?hr ?_; (case hd => rfl); (case hg => rfl); (case hr => exact oI)
          intro fH hg w37 hbox hb
          have qR := (hb.cell (World.block_lt_of_cell? _ _ (hHeld.1))).trans (hHeld.1)
          have qU := (hb.cell (World.block_lt_of_cell? _ _ (hHeld.2.1))).trans (hHeld.2.1)
          have qV := (hb.cell (World.block_lt_of_cell? _ _ (hHeld.2.2.1))).trans (hHeld.2.2.1)
          have qW := (hb.cell (World.block_lt_of_cell? _ _ (hHeld.2.2.2))).trans (hHeld.2.2.2)
          replace iV := am (Kd.bQ (zR iV.out) hb)
          replace fV := am (Kd.bQ (zR fV.out) hb)
          replace iF := am (Kd.bQ (zR iF.out) hb)
          have iW := am hbox
          have xg := am ((by rw [hg]; exact (eP sS) : w.heap.size ≤ fH))
          have wR := am ((by rw [hg]; exact (eP sS) : w.heap.size ≤ fH))
          replace HB := am (bK sS hb)
          have iM := am ((by rw [hg]; exact Nat.ne_of_lt (lZ (g := iO) (o := .cells #[.string gq, .string gI] 67 (0, 0)) (zB dh.out)) : iO ≠ fH))
          have jO := am ((by rw [hg]; exact Nat.ne_of_gt (lZ (g := iO) (o := .cells #[.string gq, .string gI] 67 (0, 0)) (zB dh.out)) : fH ≠ iO))
          replace dh := am (dI (g := iO) (o := .cells #[.string gq, .string gI] 67 (0, 0)) (zB dh.out) hb)
          clear hb hbox hg
          refine hK.out _ _ ⟨qR, qU, qV, qW⟩ (fun hHeld => ?_)
          clear hK K
          refine kM (a' := ?_) ?_ ?_
          rotate_left
          ·show Act.put _ (some 8) _ = _
           simp only [Act.put, List.setIfInBounds_toArray, List.set_cons_zero, List.set_cons_succ, jG, jL]
           rfl
          refine vg (i := 7) (N := some 42) #[true, true, true, true, true, true, true, true, true, true, true, true, true, true, true, false, false, true, false] rfl rfl (lG uC.out dw) dY (fun K hK => ?_)
          refine wL Tryz.func105 dw rfl #[.agg #[.int .i64 (rd dH 0), .int .i64 (rd dH 1), .int .i64 0, .slice none 0 0]] (by rfl) rfl rfl lV ?_
          refine (bU.calls k1 (rd dH 0) (rd dH 1) 0 _ _ ([] : List ByteArray) wX _ ?side1 ?side2 ?side3 ?side4 ?side5 A31.out).mono ?_
          (case side1 => exact Kd.VC _ _)
          (case side2 => exact Nat.le_refl _)
          (case side3 => exact cZ.below xu.out zF)
          (case side4 => exact cZ.below xw.out zF)
          (case side5 => exact cZ.below ve.out zF)
          rintro e w38 ⟨rfl, hb⟩
          have qR := (hb.cell (World.block_lt_of_cell? _ _ (hHeld.1))).trans (hHeld.1)
          have qU := (hb.cell (World.block_lt_of_cell? _ _ (hHeld.2.1))).trans (hHeld.2.1)
          have qV := (hb.cell (World.block_lt_of_cell? _ _ (hHeld.2.2.1))).trans (hHeld.2.2.1)
          have qW := (hb.cell (World.block_lt_of_cell? _ _ (hHeld.2.2.2))).trans (hHeld.2.2.2)
          refine ⟨_, rfl, ?_⟩
          replace iV := am (Kd.bQ (zR iV.out) hb)
          replace fV := am (Kd.bQ (zR fV.out) hb)
          replace iF := am (Kd.bQ (zR iF.out) hb)
          replace dh := am (dI (g := iO) (o := .cells #[.string gq, .string gI] 67 (0, 0)) (zB dh.out) hb)
          replace iW := am (dI (g := fH) (o := .cells #[.string (⟨#[]⟩ : ByteArray), .string (⟨#[]⟩ : ByteArray)] 67 (0, 0)) (zB iW.out) hb)
          replace HB := am (bK zF hb)
          (try clear hb)
          refine hK.out _ _ ⟨qR, qU, qV, qW⟩ (fun hHeld => ?_)
          clear hK K
          refine kM (a' := ?_) ?_ ?_
          rotate_left
          ·show Act.put _ (some 42) _ = _
           simp only [Act.put, List.setIfInBounds_toArray, List.set_cons_zero, List.set_cons_succ, jG, jL]
           rfl
          refine vg (i := 15) (N := some 50) #[true, true, true, true, true, true, true, true, true, true, true, true, true, true, true, true, false, true, false] rfl rfl (lG uC.out dw) dY (fun K hK => ?_)
          refine wL Tryz.func95 dw rfl #[.int .i64 (rd dH 0), .int .i64 (wrap64 ((rd dH 1) + 1)), .int .i64 0] (by rfl) rfl rfl lV ?_
          with_reducible refine (dM.calls k1 (rd dH 0) (wrap64 ((rd dH 1) + 1)) 0 yC _ ?side1 ?side2 ?side3 A32.out).mono ?_
          (case side1 => exact cZ.below xu.out zF)
          (case side2 => exact cZ.below xw.out zF)
          (case side3 => exact cZ.below ve.out zF)
          rintro e w39 ⟨rfl, hb⟩
          have qR := (hb.cell (World.block_lt_of_cell? _ _ (hHeld.1))).trans (hHeld.1)
          have qU := (hb.cell (World.block_lt_of_cell? _ _ (hHeld.2.1))).trans (hHeld.2.1)
          have qV := (hb.cell (World.block_lt_of_cell? _ _ (hHeld.2.2.1))).trans (hHeld.2.2.1)
          have qW := (hb.cell (World.block_lt_of_cell? _ _ (hHeld.2.2.2))).trans (hHeld.2.2.2)
          refine ⟨_, rfl, ?_⟩
          replace iV := am (Kd.bQ (zR iV.out) hb)
          replace fV := am (Kd.bQ (zR fV.out) hb)
          replace iF := am (Kd.bQ (zR iF.out) hb)
          replace dh := am (dI (g := iO) (o := .cells #[.string gq, .string gI] 67 (0, 0)) (zB dh.out) hb)
          replace iW := am (dI (g := fH) (o := .cells #[.string (⟨#[]⟩ : ByteArray), .string (⟨#[]⟩ : ByteArray)] 67 (0, 0)) (zB iW.out) hb)
          replace HB := am (bK zF hb)
          (try clear hb)
          refine hK.out _ _ ⟨qR, qU, qV, qW⟩ (fun hHeld => ?_)
          clear hK K
          refine kM (a' := ?_) ?_ ?_
          rotate_left
          ·show Act.put _ (some 50) _ = _
           simp only [Act.put, List.setIfInBounds_toArray, List.set_cons_zero, List.set_cons_succ, jG, jL]
           rfl
          refine pz 16 51 ?_
          exact kM Wn (JC (fH) _ ⟨hHeld, (zR iF.out), (zR iV.out), (zR fV.out), (zB dh.out), (zB iW.out), xg.out, wR.out, iM.out, jO.out, zF⟩)
        rintro fH XT ⟨hS_, h0_, h1_, h2_, h3_, h4_, h5_, h6_, h7_, h8_, h9_⟩
        have D5 : dC (Kd.R Kd.string 9 XT w.heap.size (fun _ => True) (.slice G5 jd.length G6) jd) := ⟨h0_⟩
        have n1_ : dC (Kd.R Kd.string 9 XT w.heap.size (fun _ => True) (.slice G5 jd.length G6) jd) := ⟨h1_⟩
        have n2_ : dC (Kd.R (Kd.int .i64) 3 XT w.heap.size (fun _ => True) (.slice (some iy) dH.length co36) dH) := ⟨h2_⟩
        have n3_ : dC (XT.heap[iO]? = some (.cells #[.string gq, .string gI] 67 (0, 0))) := ⟨h3_⟩
        have n4_ : dC (XT.heap[fH]? = some (.cells #[.string (⟨#[]⟩ : ByteArray), .string (⟨#[]⟩ : ByteArray)] 67 (0, 0))) := ⟨h4_⟩
        have n5_ : dC (w.heap.size ≤ fH) := ⟨h5_⟩
        have n6_ : dC (w.heap.size ≤ fH) := ⟨h6_⟩
        have n7_ : dC (iO ≠ fH) := ⟨h7_⟩
        have n8_ : dC (fH ≠ iO) := ⟨h8_⟩
        have n9_ : dC (Below w.heap.size w XT) := ⟨h9_⟩
        clear iV fV iF dh HB h0_ h1_ h2_ h3_ h4_ h5_ h6_ h7_ h8_ h9_
        have iF := D5
        have iV := n1_
        have fV := n2_
        have dh := n3_
        have iW := n4_
        have xg := n5_
        have wR := n6_
        have iM := n7_
        have jO := n8_
        have HB := n9_
        clear D5 n1_ n2_ n3_ n4_ n5_ n6_ n7_ n8_ n9_
        have hHeld : XT.cell? iy = some (.int .i64 (rd dH 0)) ∧ XT.cell? ⟨iy.block, iy.off + 1, none⟩ = some (.int .i64 (rd dH 1)) ∧ XT.cell? iy = some (.int .i64 (rd dH 0)) ∧ XT.cell? ⟨iy.block, iy.off + 1, none⟩ = some (.int .i64 (rd dH 1)) := hS_
        refine kM (a' := ?_) ?_ ?_
        rotate_left
        ·simp only [FC, Act.put, List.setIfInBounds_toArray, List.set_cons_zero, List.set_cons_succ]
         rfl
        refine vg (i := 18) (N := none) #[true, true, true, true, true, true, true, true, true, true, true, true, true, true, true, true, true, true, true] rfl rfl (lG uC.out dw) dY (fun K hK => ?_)
        have hs41 : XT.cell? ⟨fH, 0, none⟩ = some (.string (⟨#[]⟩ : ByteArray)) := bc iW.out 0
        have hfs41 := aX iW.out 0
        have hns41_0 := iM.out
        have hms41_0 := jO.out
        have hs42 : XT.cell? ⟨fH, 1, none⟩ = some (.string (⟨#[]⟩ : ByteArray)) := bc iW.out 1
        have hfs42 := aX iW.out 1
        have hns42_0 := iM.out
        have hms42_0 := jO.out
        refine UO (w1 := ?_) (by rfl) rfl ?_ ?_
        rotate_left
        ·go_simp
         rfl
        refine hK.out _ _ ⟨((cell_far (p := ⟨fH, _, none⟩) BM _).trans (((cell_far (p := ⟨fH, _, none⟩) BM _).trans (hHeld.1)))), ((cell_far (p := ⟨fH, _, none⟩) BM _).trans (((cell_far (p := ⟨fH, _, none⟩) BM _).trans (hHeld.2.1)))), ((cell_far (p := ⟨fH, _, none⟩) BM _).trans (((cell_far (p := ⟨fH, _, none⟩) BM _).trans (hHeld.2.2.1)))), ((cell_far (p := ⟨fH, _, none⟩) BM _).trans (((cell_far (p := ⟨fH, _, none⟩) BM _).trans (hHeld.2.2.2))))⟩ (fun hHeld => ?_)
        clear hK K
        refine KE (Ae uC.out dw) ?_
        have p667 : 0 ≤ (0 : Int) := mY
        have q667 : 0 < (dH.length : Int) := of_decide_eq_true kJ
        obtain ⟨ad667, e667, yV⟩ := Kd.qy (Kd.eG fV.out).2.2 0 p667 q667
        obtain rfl : iy = ad667 := (by injection e667)
        have qi667 : (0 < dH.length) = True := eq_true mY
        (try rw [show ((0 : Int)).toNat = 0 from rfl] at yV)
        (try rw [Addr.add_zero'] at yV)
        have Hm : iy.block ≠ fH := Kd.Az (Kd.Bl fV.out iW.out dY)
        have Ho : iy.block ≠ fH := Kd.Az (Kd.Bl fV.out iW.out dY)
        replace yV := (cell_far (p := ⟨fH, 0, none⟩) (by first | (rw [add_block]; exact Hm) | (show (Addr.add _ _).block ≠ _; rw [add_block]; exact Hm) | exact Hm) (.string wX)).trans yV
        (try have hx667_0d := (cell_far (W := World.drewN _ nd) (p := ⟨fH, 1, none⟩) zb45 (.string yC)).trans ((World.cell?_drewN _ nd _).trans yV))
        replace yV := (cell_far (p := ⟨fH, 1, none⟩) zb45 (.string yC)).trans yV
        clear Hm Ho
        replace p667 := eq_true p667
        replace q667 := eq_true q667
        try go_wp2_with (first | ((with_reducible refine aW (f := 95) rfl ?_); refine dU (some 59) rfl rfl Tryz.func95 dw rfl #[.int .i64 (wrap64 ((rd dH 0) + 1)), .int .i64 0, .int .i64 0] rfl lV ?_; (with_reducible refine (dM.calls k1 (wrap64 ((rd dH 0) + 1)) 0 0 t668 _ ?side1 ?side2 ?side3 A34.out).mono ?_); (case side1 => exact cZ.below xu.out zF); (case side2 => exact cZ.below xw.out zF); (case side3 => exact cZ.below ve.out zF); rintro e w43 ⟨rfl, hb⟩; refine ⟨_, rfl, ?_⟩; replace iV := am (Kd.bQ (zR (Kd.gG (Kd.gV (p := ⟨fH, 1, none⟩) (Kd.gV (p := ⟨fH, 0, none⟩) (Kd.iQ iV.out iW.out dY) (fun _ hk => hk.2) (.string wX)) (fun _ hk => hk.2) (.string yC)) (fun _ h_ => h_.1))) hb); replace fV := am (Kd.bQ (zR (Kd.gG (Kd.gV (p := ⟨fH, 1, none⟩) (Kd.gV (p := ⟨fH, 0, none⟩) (Kd.iQ fV.out iW.out dY) (fun _ hk => hk.2) (.string wX)) (fun _ hk => hk.2) (.string yC)) (fun _ h_ => h_.1))) hb); replace iF := am (Kd.bQ (zR (Kd.gG (Kd.gV (p := ⟨fH, 1, none⟩) (Kd.gV (p := ⟨fH, 0, none⟩) (Kd.iQ iF.out iW.out dY) (fun _ hk => hk.2) (.string wX)) (fun _ hk => hk.2) (.string yC)) (fun _ h_ => h_.1))) hb); replace dh := am (dI (g := iO) (o := .cells #[.string gq, .string gI] 67 (0, 0)) (by (with_reducible repeat (first | refine qg ?_ _ | refine qh ?_ | refine qi ?_ _)); refine oh ?_ iM.out _; (with_reducible repeat (first | refine qg ?_ _ | refine qh ?_ | refine qi ?_ _)); refine oh ?_ iM.out _; (with_reducible repeat (first | refine qg ?_ _ | refine qh ?_ | refine qi ?_ _)); exact dh.out) hb); replace iW := am (dI (g := fH) (o := .cells #[.string wX, .string yC] 67 (0, 0)) (by (with_reducible repeat (first | refine qg ?_ _ | refine qh ?_ | refine qi ?_ _)); refine iU (cs := #[.string wX, .string (⟨#[]⟩ : ByteArray)]) ?_ 1 _ rfl; (with_reducible repeat (first | refine qg ?_ _ | refine qh ?_ | refine qi ?_ _)); refine iU (cs := #[.string (⟨#[]⟩ : ByteArray), .string (⟨#[]⟩ : ByteArray)]) ?_ 0 _ rfl; (with_reducible repeat (first | refine qg ?_ _ | refine qh ?_ | refine qi ?_ _)); exact iW.out) hb); replace HB := am (bK zF hb); (try clear hb); have hnb44 := jO.out; have hnc44 := iM.out; have hcz45_0 : w43.cell? ⟨fH, 0, none⟩ = some (.string wX) := bc iW.out 0; have hcz45_1 : w43.cell? ⟨fH, 1, none⟩ = some (.string yC) := bc iW.out 1; have hfz45_0 := aX iW.out 0; have hfz45_1 := aX iW.out 1; have hcz46_0 : w43.cell? ⟨iO, 0, none⟩ = some (.string gq) := bc dh.out 0; have hcz46_1 : w43.cell? ⟨iO, 1, none⟩ = some (.string gI) := bc dh.out 1; have hfz46_0 := aX dh.out 0; have hfz46_1 := aX dh.out 1))
        refine bodyPost_ret (yT rfl _ _ iO 67 #[.string wX, .string t668] (0, 0) _ rfl (by (with_reducible repeat (first | refine qg ?_ _ | refine qh ?_ | refine qi ?_ _)); refine iU (cs := #[.string wX, .string gI]) ?_ 1 _ rfl; (with_reducible repeat (first | refine qg ?_ _ | refine qh ?_ | refine qi ?_ _)); refine iU (cs := #[.string gq, .string gI]) ?_ 0 _ rfl; (with_reducible repeat (first | refine qg ?_ _ | refine qh ?_ | refine qi ?_ _)); refine oh ?_ iM.out _; (with_reducible repeat (first | refine qg ?_ _ | refine qh ?_ | refine qi ?_ _)); exact dh.out) Tryz.underlying67 rfl dw) rfl ?_
        exact ⟨pY, zF⟩
       ·rw [if_neg Vl] at H
        have c33b0 : ((jd.length : Int) == 1) = false := beq_eq_false_iff_ne.mpr Vl
        have c33b1 : ((jd.length : Int) != 1) = true := bne_iff_ne.mpr Vl
        simp only [Option.some.injEq, Prod.mk.injEq] at H
        obtain ⟨rfl, rfl, rfl⟩ := H
        try go_wp2
        replace iV := am (Kd.pM iV.out)
        replace fV := am (Kd.pM fV.out)
        replace iF := am (Kd.pM iF.out)
        replace dh := am (vH dh.out)
        replace HB := am (dQ HB.out)
        obtain ⟨Ao48, YB, YC⟩ := Kd.iK fV.out
        (first | subst YC | (injection YC with I4 Qw I5; have Qx := I4.symm; have Qy := I5.symm; clear I4 Qw I5; subst Qx; subst Qy))
        have SY : 0 ≤ (0 : Int) := mY
        have S9 : 0 < (dH.length : Int) := of_decide_eq_true kJ
        obtain ⟨iy, e660, uZ⟩ := Kd.qy (Kd.eG fV.out).2.2 0 SY S9
        cases e660
        have qi660 : (0 < dH.length) = True := eq_true mY
        (try rw [show ((0 : Int)).toNat = 0 from rfl] at uZ)
        (try rw [Addr.add_zero'] at uZ)
        replace SY := eq_true SY
        replace S9 := eq_true S9
        have Si : 0 ≤ (1 : Int) := mY
        have Sj : 1 < (dH.length : Int) := of_decide_eq_true kJ
        obtain ⟨Z9, e661, uf⟩ := Kd.qy (Kd.eG fV.out).2.2 1 Si Sj
        obtain rfl : iy = Z9 := (by injection e661)
        (try simp only [show (1 : Int).toNat = 1 from rfl, Nat.reduceMul, Nat.reduceEqDiff, Go.Addr.add, ↓reduceIte] at uf)
        have qi661 : (1 < dH.length) = True := eq_true mY
        (try rw [show ((1 : Int)).toNat = 1 from rfl] at uf)
        replace Si := eq_true Si
        replace Sj := eq_true Sj
        have Sl : 0 ≤ (0 : Int) := mY
        have Sm : 0 < (dH.length : Int) := of_decide_eq_true kJ
        obtain ⟨Za, e663, ug⟩ := Kd.qy (Kd.eG fV.out).2.2 0 Sl Sm
        obtain rfl : iy = Za := (by injection e663)
        have qi663 : (0 < dH.length) = True := eq_true mY
        (try rw [show ((0 : Int)).toNat = 0 from rfl] at ug)
        (try rw [Addr.add_zero'] at ug)
        replace Sl := eq_true Sl
        replace Sm := eq_true Sm
        have Sr : 0 ≤ (1 : Int) := mY
        have Su : 1 < (dH.length : Int) := of_decide_eq_true kJ
        obtain ⟨Zb, e664, uh⟩ := Kd.qy (Kd.eG fV.out).2.2 1 Sr Su
        obtain rfl : iy = Zb := (by injection e664)
        (try simp only [show (1 : Int).toNat = 1 from rfl, Nat.reduceMul, Nat.reduceEqDiff, Go.Addr.add, ↓reduceIte] at uh)
        have qi664 : (1 < dH.length) = True := eq_true mY
        (try rw [show ((1 : Int)).toNat = 1 from rfl] at uh)
        replace Sr := eq_true Sr
        replace Su := eq_true Su
        refine Ej (n := 19) (S := fun w' => w'.cell? iy = some (.int .i64 (rd dH 0)) ∧ w'.cell? ⟨iy.block, iy.off + 1, none⟩ = some (.int .i64 (rd dH 1)) ∧ w'.cell? iy = some (.int .i64 (rd dH 0)) ∧ w'.cell? ⟨iy.block, iy.off + 1, none⟩ = some (.int .i64 (rd dH 1))) (ds := []) #[false, false, false, false, false, false, false, false, false, false, false, false, false, false, false, false, false, false, false] dw rfl rfl ⟨uZ, uf, ug, uh⟩ (fun hHeld => ?_); refine um af.tab12 af.ZX (fun uC Qu => ?_)
        generalize wr.drew = w47 at iV fV iF dh HB uZ uf ug uh hHeld ⊢
        refine pz 0 35 ?_
        refine pz 1 36 ?_
        refine pz 3 38 ?_
        refine pz 4 39 ?_
        refine pz 8 43 ?_
        refine pz 9 44 ?_
        refine pz 11 46 ?_
        refine pz 12 47 ?_
        refine BQ (i := 2) (N := some 37) (v := ?_) (a' := ?_) #[true, true, true, true, true, false, false, false, true, true, false, true, true, false, false, false, false, false, false] rfl rfl (pg uC.out Qu.out dw) (fun _ _ _ h => h) (Or.inl ⟨by rfl, ?_⟩) hHeld ?_ ?_
        rotate_left
        ·rintro w' ⟨s0, s1, s2, s3⟩
         go_simp
         with_reducible rfl
        rotate_left
        ·simp only [Act.put, List.setIfInBounds_toArray, List.set_cons_zero, List.set_cons_succ, jG, jL]
         rfl
        refine BQ (i := 5) (N := some 40) (v := ?_) (a' := ?_) #[true, true, true, true, true, true, false, false, true, true, false, true, true, false, false, false, false, false, false] rfl rfl (pg uC.out Qu.out dw) (fun _ _ _ h => h) (Or.inl ⟨by rfl, ?_⟩) hHeld ?_ ?_
        rotate_left
        ·rintro w' ⟨s0, s1, s2, s3⟩
         go_simp
         with_reducible rfl
        rotate_left
        ·simp only [Act.put, List.setIfInBounds_toArray, List.set_cons_zero, List.set_cons_succ, jG, jL]
         rfl
        refine pz 6 41 ?_
        refine BQ (i := 10) (N := some 45) (v := ?_) (a' := ?_) #[true, true, true, true, true, true, true, false, true, true, true, true, true, false, false, false, false, false, false] rfl rfl (pg uC.out Qu.out dw) (fun _ _ _ h => h) (Or.inl ⟨by rfl, ?_⟩) hHeld ?_ ?_
        rotate_left
        ·rintro w' ⟨s0, s1, s2, s3⟩
         go_simp
         with_reducible rfl
        rotate_left
        ·simp only [Act.put, List.setIfInBounds_toArray, List.set_cons_zero, List.set_cons_succ, jG, jL]
         rfl
        refine BQ (i := 13) (N := some 48) (v := ?_) (a' := ?_) #[true, true, true, true, true, true, true, false, true, true, true, true, true, true, false, false, false, false, false] rfl rfl (pg uC.out Qu.out dw) (fun _ _ _ h => h) (Or.inl ⟨by rfl, ?_⟩) hHeld ?_ ?_
        rotate_left
        ·rintro w' ⟨s0, s1, s2, s3⟩
         go_simp
         with_reducible rfl
        rotate_left
        ·simp only [Act.put, List.setIfInBounds_toArray, List.set_cons_zero, List.set_cons_succ, jG, jL]
         rfl
        refine pz 14 49 ?_
        refine join_ (σ := Nat) 1 #[true, true, true, true, true, true, true, true, true, true, true, true, true, true, true, true, true, true, false] (fun s_ => [(42, .string wX), (50, .string yC), (8, .pointer (some ⟨s_, 0, none⟩)), (51, .agg #[.string wX, .string yC])]) (fun s_ w' => (w'.cell? iy = some (.int .i64 (rd dH 0)) ∧ w'.cell? ⟨iy.block, iy.off + 1, none⟩ = some (.int .i64 (rd dH 1)) ∧ w'.cell? iy = some (.int .i64 (rd dH 0)) ∧ w'.cell? ⟨iy.block, iy.off + 1, none⟩ = some (.int .i64 (rd dH 1))) ∧ (Kd.R Kd.string 9 w' w.heap.size (fun _ => True) (.slice G5 jd.length G6) jd) ∧ (Kd.R Kd.string 9 w' w.heap.size (fun _ => True) (.slice G5 jd.length G6) jd) ∧ (Kd.R (Kd.int .i64) 3 w' w.heap.size (fun _ => True) (.slice (some iy) dH.length YB) dH) ∧ (w'.heap[iO]? = some (.cells #[.string gq, .string gI] 67 (0, 0))) ∧ (w'.heap[s_]? = some (.cells #[.string (⟨#[]⟩ : ByteArray), .string (⟨#[]⟩ : ByteArray)] 67 (0, 0))) ∧ (w.heap.size ≤ s_) ∧ (w.heap.size ≤ s_) ∧ (iO ≠ s_) ∧ (s_ ≠ iO) ∧ (Below w.heap.size w w')) ?_ ?_
        rotate_left
        ·intro JC
         refine two_ (i := 7) (j := 17) (Ni := some 42) (Nj := some 8) #[true, true, true, true, true, true, true, true, true, true, true, true, true, true, true, false, false, false, false] #[true, true, true, true, true, true, true, false, true, true, true, true, true, true, true, false, false, true, false] rfl rfl rfl rfl (NS uC.out dw) dY dY (fun K hK => ?_) (fun K hK => ?_)
         ·skip
          refine wL Tryz.func105 dw rfl #[.agg #[.int .i64 (rd dH 0), .int .i64 (rd dH 1), .int .i64 0, .slice none 0 0]] (by rfl) rfl rfl lV ?_
          refine (bU.calls k1 (rd dH 0) (rd dH 1) 0 _ _ ([] : List ByteArray) wX _ ?side1 ?side2 ?side3 ?side4 ?side5 A31.out).mono ?_
          (case side1 => exact Kd.VC _ _)
          (case side2 => exact Nat.le_refl _)
          (case side3 => exact cZ.below xu.out sS)
          (case side4 => exact cZ.below xw.out sS)
          (case side5 => exact cZ.below ve.out sS)
          rintro e w49 ⟨rfl, hb⟩
          have qR := (hb.cell (World.block_lt_of_cell? _ _ (hHeld.1))).trans (hHeld.1)
          have qU := (hb.cell (World.block_lt_of_cell? _ _ (hHeld.2.1))).trans (hHeld.2.1)
          have qV := (hb.cell (World.block_lt_of_cell? _ _ (hHeld.2.2.1))).trans (hHeld.2.2.1)
          have qW := (hb.cell (World.block_lt_of_cell? _ _ (hHeld.2.2.2))).trans (hHeld.2.2.2)
          refine ⟨_, rfl, ?_⟩
          replace iV := am (Kd.bQ (zR iV.out) hb)
          replace fV := am (Kd.bQ (zR fV.out) hb)
          replace iF := am (Kd.bQ (zR iF.out) hb)
          replace dh := am (dI (g := iO) (o := .cells #[.string gq, .string gI] 67 (0, 0)) (zB dh.out) hb)
          replace HB := am (bK sS hb)
          (try clear hb)
          refine hK.out _ _ ⟨qR, qU, qV, qW⟩ (fun hHeld => ?_)
          clear hK K
          refine kM (a' := ?_) ?_ ?_
          rotate_left
          ·show Act.put _ (some 42) _ = _
           simp only [Act.put, List.setIfInBounds_toArray, List.set_cons_zero, List.set_cons_succ, jG, jL]
           rfl
          refine two_ (i := 15) (j := 17) (Ni := some 50) (Nj := some 8) #[true, true, true, true, true, true, true, true, true, true, true, true, true, true, true, true, false, false, false] #[true, true, true, true, true, true, true, true, true, true, true, true, true, true, true, false, false, true, false] rfl rfl rfl rfl (NS uC.out dw) dY dY (fun K hK => ?_) (fun K hK => ?_)
          ·skip
           refine wL Tryz.func95 dw rfl #[.int .i64 (rd dH 0), .int .i64 (wrap64 ((rd dH 1) + 1)), .int .i64 0] (by rfl) rfl rfl lV ?_
           with_reducible refine (dM.calls k1 (rd dH 0) (wrap64 ((rd dH 1) + 1)) 0 yC _ ?side1 ?side2 ?side3 A32.out).mono ?_
           (case side1 => exact cZ.below xu.out sS)
           (case side2 => exact cZ.below xw.out sS)
           (case side3 => exact cZ.below ve.out sS)
           rintro e w50 ⟨rfl, hb⟩
           have qR := (hb.cell (World.block_lt_of_cell? _ _ (hHeld.1))).trans (hHeld.1)
           have qU := (hb.cell (World.block_lt_of_cell? _ _ (hHeld.2.1))).trans (hHeld.2.1)
           have qV := (hb.cell (World.block_lt_of_cell? _ _ (hHeld.2.2.1))).trans (hHeld.2.2.1)
           have qW := (hb.cell (World.block_lt_of_cell? _ _ (hHeld.2.2.2))).trans (hHeld.2.2.2)
           refine ⟨_, rfl, ?_⟩
           replace iV := am (Kd.bQ (zR iV.out) hb)
           replace fV := am (Kd.bQ (zR fV.out) hb)
           replace iF := am (Kd.bQ (zR iF.out) hb)
           replace dh := am (dI (g := iO) (o := .cells #[.string gq, .string gI] 67 (0, 0)) (zB dh.out) hb)
           replace HB := am (bK sS hb)
           (try clear hb)
           refine hK.out _ _ ⟨qR, qU, qV, qW⟩ (fun hHeld => ?_)
           clear hK K
           refine kM (a' := ?_) ?_ ?_
           rotate_left
           ·show Act.put _ (some 50) _ = _
            simp only [Act.put, List.setIfInBounds_toArray, List.set_cons_zero, List.set_cons_succ, jG, jL]
            rfl
           refine pz 16 51 ?_
           refine vg (i := 17) (N := some 8) #[true, true, true, true, true, true, true, true, true, true, true, true, true, true, true, true, true, true, false] rfl rfl (lG uC.out dw) dY (fun K hK => ?_)
           refine xe ?hg (N := 8) ?hd (cs := #[.string (⟨#[]⟩ : ByteArray), .string (⟨#[]⟩ : ByteArray)]) (t := 67) ?hr ?_; (case hd => rfl); (case hg => rfl); (case hr => exact oI)
           intro fH hg w51 hbox hb
           have qR := (hb.cell (World.block_lt_of_cell? _ _ (hHeld.1))).trans (hHeld.1)
           have qU := (hb.cell (World.block_lt_of_cell? _ _ (hHeld.2.1))).trans (hHeld.2.1)
           have qV := (hb.cell (World.block_lt_of_cell? _ _ (hHeld.2.2.1))).trans (hHeld.2.2.1)
           have qW := (hb.cell (World.block_lt_of_cell? _ _ (hHeld.2.2.2))).trans (hHeld.2.2.2)
           replace iV := am (Kd.bQ (zR iV.out) hb)
           replace fV := am (Kd.bQ (zR fV.out) hb)
           replace iF := am (Kd.bQ (zR iF.out) hb)
           have iW := am hbox
           have xg := am ((by rw [hg]; exact (eP sS) : w.heap.size ≤ fH))
           have wR := am ((by rw [hg]; exact (eP sS) : w.heap.size ≤ fH))
           replace HB := am (bK sS hb)
           have iM := am ((by rw [hg]; exact Nat.ne_of_lt (lZ (g := iO) (o := .cells #[.string gq, .string gI] 67 (0, 0)) (zB dh.out)) : iO ≠ fH))
           have jO := am ((by rw [hg]; exact Nat.ne_of_gt (lZ (g := iO) (o := .cells #[.string gq, .string gI] 67 (0, 0)) (zB dh.out)) : fH ≠ iO))
           replace dh := am (dI (g := iO) (o := .cells #[.string gq, .string gI] 67 (0, 0)) (zB dh.out) hb)
           clear hb hbox hg
           refine hK.out _ _ ⟨qR, qU, qV, qW⟩ (fun hHeld => ?_)
           clear hK K
           refine kM (a' := ?_) ?_ ?_
           rotate_left
           ·show Act.put _ (some 8) _ = _
            simp only [Act.put, List.setIfInBounds_toArray, List.set_cons_zero, List.set_cons_succ, jG, jL]
            rfl
           exact kM Wn (JC (fH) _ ⟨hHeld, (zR iF.out), (zR iV.out), (zR fV.out), (zB dh.out), (zB iW.out), xg.out, wR.out, iM.out, jO.out, zF⟩)
          ·skip
           refine xe ?hg (N := 8) ?hd (cs := #[.string (⟨#[]⟩ : ByteArray), .string (⟨#[]⟩ : ByteArray)]) (t := 67) ?hr ?_; (case hd => rfl); (case hg => rfl); (case hr => exact oI)
           intro fH hg w50 hbox hb
           have qR := (hb.cell (World.block_lt_of_cell? _ _ (hHeld.1))).trans (hHeld.1)
           have qU := (hb.cell (World.block_lt_of_cell? _ _ (hHeld.2.1))).trans (hHeld.2.1)
           have qV := (hb.cell (World.block_lt_of_cell? _ _ (hHeld.2.2.1))).trans (hHeld.2.2.1)
           have qW := (hb.cell (World.block_lt_of_cell? _ _ (hHeld.2.2.2))).trans (hHeld.2.2.2)
           replace iV := am (Kd.bQ (zR iV.out) hb)
           replace fV := am (Kd.bQ (zR fV.out) hb)
           replace iF := am (Kd.bQ (zR iF.out) hb)
           have iW := am hbox
           have xg := am ((by rw [hg]; exact (eP sS) : w.heap.size ≤ fH))
           have wR := am ((by rw [hg]; exact (eP sS) : w.heap.size ≤ fH))
           replace HB := am (bK sS hb)
           have iM := am ((by rw [hg]; exact Nat.ne_of_lt (lZ (g := iO) (o := .cells #[.string gq, .string gI] 67 (0, 0)) (zB dh.out)) : iO ≠ fH))
           have jO := am ((by rw [hg]; exact Nat.ne_of_gt (lZ (g := iO) (o := .cells #[.string gq, .string gI] 67 (0, 0)) (zB dh.out)) : fH ≠ iO))
           replace dh := am (dI (g := iO) (o := .cells #[.string gq, .string gI] 67 (0, 0)) (zB dh.out) hb)
           clear hb hbox hg
           refine hK.out _ _ ⟨qR, qU, qV, qW⟩ (fun hHeld => ?_)
           clear hK K
           refine kM (a' := ?_) ?_ ?_
           rotate_left
           ·show Act.put _ (some 8) _ = _
            simp only [Act.put, List.setIfInBounds_toArray, List.set_cons_zero, List.set_cons_succ, jG, jL]
            rfl
           refine vg (i := 15) (N := some 50) #[true, true, true, true, true, true, true, true, true, true, true, true, true, true, true, true, false, true, false] rfl rfl (lG uC.out dw) dY (fun K hK => ?_)
           refine wL Tryz.func95 dw rfl #[.int .i64 (rd dH 0), .int .i64 (wrap64 ((rd dH 1) + 1)), .int .i64 0] (by rfl) rfl rfl lV ?_
           with_reducible refine (dM.calls k1 (rd dH 0) (wrap64 ((rd dH 1) + 1)) 0 yC _ ?side1 ?side2 ?side3 A32.out).mono ?_
           (case side1 => exact cZ.below xu.out zF)
           (case side2 => exact cZ.below xw.out zF)
           (case side3 => exact cZ.below ve.out zF)
           rintro e w51 ⟨rfl, hb⟩
           have qR := (hb.cell (World.block_lt_of_cell? _ _ (hHeld.1))).trans (hHeld.1)
           have qU := (hb.cell (World.block_lt_of_cell? _ _ (hHeld.2.1))).trans (hHeld.2.1)
           have qV := (hb.cell (World.block_lt_of_cell? _ _ (hHeld.2.2.1))).trans (hHeld.2.2.1)
           have qW := (hb.cell (World.block_lt_of_cell? _ _ (hHeld.2.2.2))).trans (hHeld.2.2.2)
           refine ⟨_, rfl, ?_⟩
           replace iV := am (Kd.bQ (zR iV.out) hb)
           replace fV := am (Kd.bQ (zR fV.out) hb)
           replace iF := am (Kd.bQ (zR iF.out) hb)
           replace dh := am (dI (g := iO) (o := .cells #[.string gq, .string gI] 67 (0, 0)) (zB dh.out) hb)
           replace iW := am (dI (g := fH) (o := .cells #[.string (⟨#[]⟩ : ByteArray), .string (⟨#[]⟩ : ByteArray)] 67 (0, 0)) (zB iW.out) hb)
           replace HB := am (bK zF hb)
           (try clear hb)
           refine hK.out _ _ ⟨qR, qU, qV, qW⟩ (fun hHeld => ?_)
           clear hK K
           refine kM (a' := ?_) ?_ ?_
           rotate_left
           ·show Act.put _ (some 50) _ = _
            simp only [Act.put, List.setIfInBounds_toArray, List.set_cons_zero, List.set_cons_succ, jG, jL]
            rfl
           refine pz 16 51 ?_
           exact kM Wn (JC (fH) _ ⟨hHeld, (zR iF.out), (zR iV.out), (zR fV.out), (zB dh.out), (zB iW.out), xg.out, wR.out, iM.out, jO.out, zF⟩)
         ·skip
          refine xe ?hg (N := 8) ?hd (cs := #[.string (⟨#[]⟩ : ByteArray), .string (⟨#[]⟩ : ByteArray)]) (t := 67) ?hr ?_; (case hd => rfl); (case hg => rfl); (case hr => exact oI)
          intro fH hg w49 hbox hb
          have qR := (hb.cell (World.block_lt_of_cell? _ _ (hHeld.1))).trans (hHeld.1)
          have qU := (hb.cell (World.block_lt_of_cell? _ _ (hHeld.2.1))).trans (hHeld.2.1)
          have qV := (hb.cell (World.block_lt_of_cell? _ _ (hHeld.2.2.1))).trans (hHeld.2.2.1)
          have qW := (hb.cell (World.block_lt_of_cell? _ _ (hHeld.2.2.2))).trans (hHeld.2.2.2)
          replace iV := am (Kd.bQ (zR iV.out) hb)
          replace fV := am (Kd.bQ (zR fV.out) hb)
          replace iF := am (Kd.bQ (zR iF.out) hb)
          have iW := am hbox
          have xg := am ((by rw [hg]; exact (eP sS) : w.heap.size ≤ fH))
          have wR := am ((by rw [hg]; exact (eP sS) : w.heap.size ≤ fH))
          replace HB := am (bK sS hb)
          have iM := am ((by rw [hg]; exact Nat.ne_of_lt (lZ (g := iO) (o := .cells #[.string gq, .string gI] 67 (0, 0)) (zB dh.out)) : iO ≠ fH))
          have jO := am ((by rw [hg]; exact Nat.ne_of_gt (lZ (g := iO) (o := .cells #[.string gq, .string gI] 67 (0, 0)) (zB dh.out)) : fH ≠ iO))
          replace dh := am (dI (g := iO) (o := .cells #[.string gq, .string gI] 67 (0, 0)) (zB dh.out) hb)
          clear hb hbox hg
          refine hK.out _ _ ⟨qR, qU, qV, qW⟩ (fun hHeld => ?_)
          clear hK K
          refine kM (a' := ?_) ?_ ?_
          rotate_left
          ·show Act.put _ (some 8) _ = _
           simp only [Act.put, List.setIfInBounds_toArray, List.set_cons_zero, List.set_cons_succ, jG, jL]
           rfl
          refine vg (i := 7) (N := some 42) #[true, true, true, true, true, true, true, true, true, true, true, true, true, true, true, false, false, true, false] rfl rfl (lG uC.out dw) dY (fun K hK => ?_)
          refine wL Tryz.func105 dw rfl #[.agg #[.int .i64 (rd dH 0), .int .i64 (rd dH 1), .int .i64 0, .slice none 0 0]] (by rfl) rfl rfl lV ?_
          refine (bU.calls k1 (rd dH 0) (rd dH 1) 0 _ _ ([] : List ByteArray) wX _ ?side1 ?side2 ?side3 ?side4 ?side5 A31.out).mono ?_
          (case side1 => exact Kd.VC _ _)
          (case side2 => exact Nat.le_refl _)
          (case side3 => exact cZ.below xu.out zF)
          (case side4 => exact cZ.below xw.out zF)
          (case side5 => exact cZ.below ve.out zF)
          rintro e w50 ⟨rfl, hb⟩
          have qR := (hb.cell (World.block_lt_of_cell? _ _ (hHeld.1))).trans (hHeld.1)
          have qU := (hb.cell (World.block_lt_of_cell? _ _ (hHeld.2.1))).trans (hHeld.2.1)
          have qV := (hb.cell (World.block_lt_of_cell? _ _ (hHeld.2.2.1))).trans (hHeld.2.2.1)
          have qW := (hb.cell (World.block_lt_of_cell? _ _ (hHeld.2.2.2))).trans (hHeld.2.2.2)
          refine ⟨_, rfl, ?_⟩
          replace iV := am (Kd.bQ (zR iV.out) hb)
          replace fV := am (Kd.bQ (zR fV.out) hb)
          replace iF := am (Kd.bQ (zR iF.out) hb)
          replace dh := am (dI (g := iO) (o := .cells #[.string gq, .string gI] 67 (0, 0)) (zB dh.out) hb)
          replace iW := am (dI (g := fH) (o := .cells #[.string (⟨#[]⟩ : ByteArray), .string (⟨#[]⟩ : ByteArray)] 67 (0, 0)) (zB iW.out) hb)
          replace HB := am (bK zF hb)
          (try clear hb)
          refine hK.out _ _ ⟨qR, qU, qV, qW⟩ (fun hHeld => ?_)
          clear hK K
          refine kM (a' := ?_) ?_ ?_
          rotate_left
          ·show Act.put _ (some 42) _ = _
           simp only [Act.put, List.setIfInBounds_toArray, List.set_cons_zero, List.set_cons_succ, jG, jL]
           rfl
          refine vg (i := 15) (N := some 50) #[true, true, true, true, true, true, true, true, true, true, true, true, true, true, true, true, false, true, false] rfl rfl (lG uC.out dw) dY (fun K hK => ?_)
          refine wL Tryz.func95 dw rfl #[.int .i64 (rd dH 0), .int .i64 (wrap64 ((rd dH 1) + 1)), .int .i64 0] (by rfl) rfl rfl lV ?_
          with_reducible refine (dM.calls k1 (rd dH 0) (wrap64 ((rd dH 1) + 1)) 0 yC _ ?side1 ?side2 ?side3 A32.out).mono ?_
          (case side1 => exact cZ.below xu.out zF)
          (case side2 => exact cZ.below xw.out zF)
          (case side3 => exact cZ.below ve.out zF)
          rintro e w51 ⟨rfl, hb⟩
          have qR := (hb.cell (World.block_lt_of_cell? _ _ (hHeld.1))).trans (hHeld.1)
          have qU := (hb.cell (World.block_lt_of_cell? _ _ (hHeld.2.1))).trans (hHeld.2.1)
          have qV := (hb.cell (World.block_lt_of_cell? _ _ (hHeld.2.2.1))).trans (hHeld.2.2.1)
          have qW := (hb.cell (World.block_lt_of_cell? _ _ (hHeld.2.2.2))).trans (hHeld.2.2.2)
          refine ⟨_, rfl, ?_⟩
          replace iV := am (Kd.bQ (zR iV.out) hb)
          replace fV := am (Kd.bQ (zR fV.out) hb)
          replace iF := am (Kd.bQ (zR iF.out) hb)
          replace dh := am (dI (g := iO) (o := .cells #[.string gq, .string gI] 67 (0, 0)) (zB dh.out) hb)
          replace iW := am (dI (g := fH) (o := .cells #[.string (⟨#[]⟩ : ByteArray), .string (⟨#[]⟩ : ByteArray)] 67 (0, 0)) (zB iW.out) hb)
          replace HB := am (bK zF hb)
          (try clear hb)
          refine hK.out _ _ ⟨qR, qU, qV, qW⟩ (fun hHeld => ?_)
          clear hK K
          refine kM (a' := ?_) ?_ ?_
          rotate_left
          ·show Act.put _ (some 50) _ = _
           simp only [Act.put, List.setIfInBounds_toArray, List.set_cons_zero, List.set_cons_succ, jG, jL]
           rfl
          refine pz 16 51 ?_
          exact kM Wn (JC (fH) _ ⟨hHeld, (zR iF.out), (zR iV.out), (zR fV.out), (zB dh.out), (zB iW.out), xg.out, wR.out, iM.out, jO.out, zF⟩)
        rintro fH O6 ⟨hS_, h0_, h1_, h2_, h3_, h4_, h5_, h6_, h7_, h8_, h9_⟩
        have D5 : dC (Kd.R Kd.string 9 O6 w.heap.size (fun _ => True) (.slice G5 jd.length G6) jd) := ⟨h0_⟩
        have n1_ : dC (Kd.R Kd.string 9 O6 w.heap.size (fun _ => True) (.slice G5 jd.length G6) jd) := ⟨h1_⟩
        have n2_ : dC (Kd.R (Kd.int .i64) 3 O6 w.heap.size (fun _ => True) (.slice (some iy) dH.length YB) dH) := ⟨h2_⟩
        have n3_ : dC (O6.heap[iO]? = some (.cells #[.string gq, .string gI] 67 (0, 0))) := ⟨h3_⟩
        have n4_ : dC (O6.heap[fH]? = some (.cells #[.string (⟨#[]⟩ : ByteArray), .string (⟨#[]⟩ : ByteArray)] 67 (0, 0))) := ⟨h4_⟩
        have n5_ : dC (w.heap.size ≤ fH) := ⟨h5_⟩
        have n6_ : dC (w.heap.size ≤ fH) := ⟨h6_⟩
        have n7_ : dC (iO ≠ fH) := ⟨h7_⟩
        have n8_ : dC (fH ≠ iO) := ⟨h8_⟩
        have n9_ : dC (Below w.heap.size w O6) := ⟨h9_⟩
        clear iV fV iF dh HB h0_ h1_ h2_ h3_ h4_ h5_ h6_ h7_ h8_ h9_
        have iF := D5
        have iV := n1_
        have fV := n2_
        have dh := n3_
        have iW := n4_
        have xg := n5_
        have wR := n6_
        have iM := n7_
        have jO := n8_
        have HB := n9_
        clear D5 n1_ n2_ n3_ n4_ n5_ n6_ n7_ n8_ n9_
        have hHeld : O6.cell? iy = some (.int .i64 (rd dH 0)) ∧ O6.cell? ⟨iy.block, iy.off + 1, none⟩ = some (.int .i64 (rd dH 1)) ∧ O6.cell? iy = some (.int .i64 (rd dH 0)) ∧ O6.cell? ⟨iy.block, iy.off + 1, none⟩ = some (.int .i64 (rd dH 1)) := hS_
        refine kM (a' := ?_) ?_ ?_
        rotate_left
        ·simp only [FC, Act.put, List.setIfInBounds_toArray, List.set_cons_zero, List.set_cons_succ]
         rfl
        refine vg (i := 18) (N := none) #[true, true, true, true, true, true, true, true, true, true, true, true, true, true, true, true, true, true, true] rfl rfl (lG uC.out dw) dY (fun K hK => ?_)
        have hs53 : O6.cell? ⟨fH, 0, none⟩ = some (.string (⟨#[]⟩ : ByteArray)) := bc iW.out 0
        have hfs53 := aX iW.out 0
        have hns53_0 := iM.out
        have hms53_0 := jO.out
        have hs54 : O6.cell? ⟨fH, 1, none⟩ = some (.string (⟨#[]⟩ : ByteArray)) := bc iW.out 1
        have hfs54 := aX iW.out 1
        have hns54_0 := iM.out
        have hms54_0 := jO.out
        refine UO (w1 := ?_) (by rfl) rfl ?_ ?_
        rotate_left
        ·go_simp
         rfl
        refine hK.out _ _ ⟨((cell_far (p := ⟨fH, _, none⟩) BM _).trans (((cell_far (p := ⟨fH, _, none⟩) BM _).trans (hHeld.1)))), ((cell_far (p := ⟨fH, _, none⟩) BM _).trans (((cell_far (p := ⟨fH, _, none⟩) BM _).trans (hHeld.2.1)))), ((cell_far (p := ⟨fH, _, none⟩) BM _).trans (((cell_far (p := ⟨fH, _, none⟩) BM _).trans (hHeld.2.2.1)))), ((cell_far (p := ⟨fH, _, none⟩) BM _).trans (((cell_far (p := ⟨fH, _, none⟩) BM _).trans (hHeld.2.2.2))))⟩ (fun hHeld => ?_)
        clear hK K
        refine KE (Ae uC.out dw) ?_
        have hnb55 := jO.out
        have hnc55 := iM.out
        have hcz56_0 : O6.cell? ⟨fH, 0, none⟩ = some (.string (⟨#[]⟩ : ByteArray)) := bc iW.out 0
        have hcz56_1 : O6.cell? ⟨fH, 1, none⟩ = some (.string (⟨#[]⟩ : ByteArray)) := bc iW.out 1
        have hfz56_0 := aX iW.out 0
        have hfz56_1 := aX iW.out 1
        have hcz57_0 : O6.cell? ⟨iO, 0, none⟩ = some (.string gq) := bc dh.out 0
        have hcz57_1 : O6.cell? ⟨iO, 1, none⟩ = some (.string gI) := bc dh.out 1
        have hfz57_0 := aX dh.out 0
        have hfz57_1 := aX dh.out 1
        try go_wp2
        refine bodyPost_ret (yT rfl _ _ iO 67 #[.string wX, .string yC] (0, 0) _ rfl (by (with_reducible repeat (first | refine qg ?_ _ | refine qh ?_ | refine qi ?_ _)); refine iU (cs := #[.string wX, .string gI]) ?_ 1 _ rfl; (with_reducible repeat (first | refine qg ?_ _ | refine qh ?_ | refine qi ?_ _)); refine iU (cs := #[.string gq, .string gI]) ?_ 0 _ rfl; (with_reducible repeat (first | refine qg ?_ _ | refine qh ?_ | refine qi ?_ _)); refine oh ?_ iM.out _; (with_reducible repeat (first | refine qg ?_ _ | refine qh ?_ | refine qi ?_ _)); refine oh ?_ iM.out _; (with_reducible repeat (first | refine qg ?_ _ | refine qh ?_ | refine qi ?_ _)); exact dh.out) Tryz.underlying67 rfl dw) rfl ?_
        exact ⟨pY, zF⟩
      ·rw [if_neg OC] at H
       exact absurd H gB
     ·rw [if_neg c29] at H
      exact absurd H gB
end Go.Proofs.YtieohddolkeegaaGreatDoor.G

end
section
namespace Go.Proofs.YtieohddolkeegaaGreatDoor.VI
open Go Go.RowKit Go.Proofs.YtieohddolkeegaaGreatDoor.G Go.Proofs.aA.aZ
set_option maxRecDepth 100000
set_option linter.unusedVariables false
set_option linter.unusedSimpArgs false
theorem dL.C9 {W : World} (hE : cZ ji W) (hM : cZ jU W) (hT : cZ jb W) : ∀ vs r, dL.gv vs = some r → ik Tryz.prog W.heap.size (fun w => Below W.heap.size W w) 8 vs r := by
  intro vs r h
  unfold dL.gv at h
  split at h
  case h_2 => cases h
  rename_i q0
  obtain ⟨l0, hq0, h2⟩ := lC h
  obtain rfl := yO _ _ hq0
  obtain ⟨q, hq, rfl⟩ := Option.map_eq_some_iff.1 h2
  obtain ⟨k, hk⟩ := tH hq
  refine pU ⟨_, Tryz.func8, by kernel_rfl, by kernel_rfl⟩ rfl fun w ms pd hw hd => ?_
  obtain ⟨m0, ms0, rfl, h0, hd⟩ := jH hd
  obtain rfl := mP hd
  obtain ⟨A0, c0, rfl, hc0, hr0⟩ := wP (mk := Value.int .u8) (h1 := fun _ => rfl) h0
  refine (dL.calls (l0 := l0) (r := q) (w := w) (h := hk) (k := k) (hGE := cZ.below hE hw) (hGM := cZ.below hM hw) (hGT := cZ.below hT hw) (A0 := A0) (c0 := c0) (hr0 := hr0) (hc0 := hc0)).mono fun e w' he => ?_
  obtain ⟨v0, rfl, hR, hb⟩ := he
  exact ⟨v0, rfl, hb, fun g _ => w.heap.size ≤ g, fun g k hg h => absurd h (by omega), SG kv67 hR (fun y _ x hx => by simp [zA, VV.cells, VV.str, VV.int, VV.bool] at hx; rcases hx with rfl | rfl <;> exact ⟨_, rfl⟩)⟩
theorem dB.C9 {W : World} (hE : cZ ji W) (hM : cZ jU W) (hT : cZ jb W) : ∀ vs r, dB.gv vs = some r → ik Tryz.prog W.heap.size (fun w => Below W.heap.size W w) 9 vs r := by
  intro vs r h
  unfold dB.gv at h
  split at h
  case h_2 => cases h
  rename_i q0
  obtain ⟨l0, hq0, h2⟩ := lC h
  obtain rfl := yO _ _ hq0
  obtain ⟨q, hq, rfl⟩ := Option.map_eq_some_iff.1 h2
  obtain ⟨k, hk⟩ := tH hq
  refine pU ⟨_, Tryz.func9, by kernel_rfl, by kernel_rfl⟩ rfl fun w ms pd hw hd => ?_
  obtain ⟨m0, ms0, rfl, h0, hd⟩ := jH hd
  obtain rfl := mP hd
  obtain ⟨A0, c0, rfl, hc0, hr0⟩ := wP (mk := Value.int .u8) (h1 := fun _ => rfl) h0
  refine (dB.calls (l0 := l0) (r := q) (w := w) (h := hk) (k := k) (hGE := cZ.below hE hw) (hGM := cZ.below hM hw) (hGT := cZ.below hT hw) (A0 := A0) (c0 := c0) (hr0 := hr0) (hc0 := hc0)).mono fun e w' he => ?_
  obtain ⟨v0, rfl, hR, hb⟩ := he
  exact ⟨v0, rfl, hb, fun g _ => w.heap.size ≤ g, fun g k hg h => absurd h (by omega), SG kv67 hR (fun y _ x hx => by simp [zA, VV.cells, VV.str, VV.int, VV.bool] at hx; rcases hx with rfl | rfl <;> exact ⟨_, rfl⟩)⟩
theorem dD.C9 {W : World} (hE : cZ ji W) (hM : cZ jU W) (hT : cZ jb W) : ∀ vs r, dD.gv vs = some r → ik Tryz.prog W.heap.size (fun w => Below W.heap.size W w) 11 vs r := by
  intro vs r h
  unfold dD.gv at h
  split at h
  case h_2 => cases h
  rename_i q0
  obtain ⟨l0, hq0, h2⟩ := lC h
  obtain rfl := yO _ _ hq0
  obtain ⟨q, hq, rfl⟩ := Option.map_eq_some_iff.1 h2
  obtain ⟨k, hk⟩ := tH hq
  refine pU ⟨_, Tryz.func11, by kernel_rfl, by kernel_rfl⟩ rfl fun w ms pd hw hd => ?_
  obtain ⟨m0, ms0, rfl, h0, hd⟩ := jH hd
  obtain rfl := mP hd
  obtain ⟨A0, c0, rfl, hc0, hr0⟩ := wP (mk := Value.int .u8) (h1 := fun _ => rfl) h0
  exact (dD.calls (l0 := l0) (r := q) (w := w) (h := hk) (k := k) (hGE := cZ.below hE hw) (hGM := cZ.below hM hw) (hGT := cZ.below hT hw) (A0 := A0) (c0 := c0) (hr0 := hr0) (hc0 := hc0)).mono fun e w' he => ⟨_, he.1, (he.2), uY _⟩
theorem eF.C9 {W : World} (hE : cZ ji W) (hM : cZ jU W) (hT : cZ jb W) : ∀ vs r, eF.gv vs = some r → ik Tryz.prog W.heap.size (fun w => Below W.heap.size W w) 14 vs r := by
  intro vs r h
  unfold eF.gv at h
  split at h
  case h_2 => cases h
  rename_i q0
  obtain ⟨l0, hq0, h2⟩ := lC h
  obtain rfl := yO _ _ hq0
  obtain ⟨q, hq, rfl⟩ := Option.map_eq_some_iff.1 h2
  obtain ⟨k, hk⟩ := tH hq
  refine pU ⟨_, Tryz.func14, by kernel_rfl, by kernel_rfl⟩ rfl fun w ms pd hw hd => ?_
  obtain ⟨m0, ms0, rfl, h0, hd⟩ := jH hd
  obtain rfl := mP hd
  obtain ⟨A0, c0, rfl, hc0, hr0⟩ := wP (mk := Value.int .u8) (h1 := fun _ => rfl) h0
  exact (eF.calls (l0 := l0) (r := q) (w := w) (h := hk) (k := k) (hGE := cZ.below hE hw) (hGM := cZ.below hM hw) (hGT := cZ.below hT hw) (A0 := A0) (c0 := c0) (hr0 := hr0) (hc0 := hc0)).mono fun e w' he => ⟨_, he.1, (he.2), uY _⟩
theorem bD.C9 {W : World} (hE : cZ ji W) (hM : cZ jU W) (hT : cZ jb W) : ∀ vs r, bD.gv vs = some r → ik Tryz.prog W.heap.size (fun w => Below W.heap.size W w) 19 vs r := by
  intro vs r h
  unfold bD.gv at h
  split at h
  case h_2 => cases h
  rename_i q0 q1
  obtain ⟨l0, hq0, g0⟩ := lC h
  obtain rfl := JB _ _ hq0
  obtain ⟨l1, hq1, h2⟩ := lC g0
  obtain rfl := JB _ _ hq1
  obtain ⟨q, hq, rfl⟩ := Option.map_eq_some_iff.1 h2
  obtain ⟨k, hk⟩ := tH hq
  refine pU ⟨_, Tryz.func19, by kernel_rfl, by kernel_rfl⟩ rfl fun w ms pd hw hd => ?_
  obtain ⟨m0, ms0, rfl, h0, hd⟩ := jH hd
  obtain ⟨m1, ms1, rfl, h1, hd⟩ := jH hd
  obtain rfl := mP hd
  obtain ⟨A0, c0, rfl, hc0, hr0⟩ := Pe (d := GX) (e := zA) (f := fun x : iR => [.string x.f0, .string x.f1]) (fun _ => rfl) (fun x => XZ w x) (fun _ => rfl) h0
  obtain ⟨A1, c1, rfl, hc1, hr1⟩ := Pe (d := GX) (e := zA) (f := fun x : iR => [.string x.f0, .string x.f1]) (fun _ => rfl) (fun x => XZ w x) (fun _ => rfl) h1
  exact (bD.calls (l0 := l0) (l1 := l1) (r := q) (w := w) (h := hk) (k := k) (A0 := A0) (c0 := c0) (hr0 := hr0) (hc0 := hc0) (A1 := A1) (c1 := c1) (hr1 := hr1) (hc1 := hc1)).mono fun e w' he => ⟨_, he.1, (kG.below he.2), uY _⟩
theorem fZ.C9 {W : World} (hE : cZ ji W) (hM : cZ jU W) (hT : cZ jb W) : ∀ vs r, fZ.gv vs = some r → ik Tryz.prog W.heap.size (fun w => Below W.heap.size W w) 21 vs r := by
  intro vs r h
  unfold fZ.gv at h
  split at h
  case h_2 => cases h
  rename_i q0
  obtain ⟨l0, hq0, h2⟩ := lC h
  obtain rfl := yO _ _ hq0
  obtain ⟨q, hq, rfl⟩ := Option.map_eq_some_iff.1 h2
  obtain ⟨k, hk⟩ := tH hq
  refine pU ⟨_, Tryz.func21, by kernel_rfl, by kernel_rfl⟩ rfl fun w ms pd hw hd => ?_
  obtain ⟨m0, ms0, rfl, h0, hd⟩ := jH hd
  obtain rfl := mP hd
  obtain ⟨A0, c0, rfl, hc0, hr0⟩ := wP (mk := Value.int .u8) (h1 := fun _ => rfl) h0
  refine (fZ.calls (l0 := l0) (r1 := q.1) (r2 := q.2) (w := w) (h := hk) (k := k) (hGE := cZ.below hE hw) (hGM := cZ.below hM hw) (hGT := cZ.below hT hw) (A0 := A0) (c0 := c0) (hr0 := hr0) (hc0 := hc0)).mono fun e w' he => ?_
  obtain ⟨v1, rfl, hR1, hb⟩ := he
  exact ⟨_, rfl, hb, LU (.cons _ _ _ _ (.s _) (.cons _ _ _ _ (SG kv67 hR1 (fun y _ x hx => by simp [zA, VV.cells, VV.str, VV.int, VV.bool] at hx; rcases hx with rfl | rfl <;> exact ⟨_, rfl⟩)) .nil))⟩
theorem af.C9 {W : World} (hE : cZ ji W) (hM : cZ jU W) (hT : cZ jb W) : ∀ vs r, af.gv vs = some r → ik Tryz.prog W.heap.size (fun w => Below W.heap.size W w) 96 vs r := by
  intro vs r h
  unfold af.gv at h
  split at h
  case h_2 => cases h
  rename_i a0
  obtain ⟨q, hq, rfl⟩ := Option.map_eq_some_iff.1 h
  obtain ⟨k, hk⟩ := tH hq
  refine pU ⟨_, Tryz.func96, by kernel_rfl, by kernel_rfl⟩ rfl fun w ms pd hw hd => ?_
  obtain ⟨m0, ms0, rfl, h0, hd⟩ := jH hd
  obtain rfl := mP hd
  obtain rfl := CZ h0
  exact (af.calls (a0 := a0) (r1 := q.1) (r2 := q.2.1) (r3 := q.2.2) (w := w) (h := hk) (k := k) (hGE := cZ.below hE hw) (hGM := cZ.below hM hw) (hGT := cZ.below hT hw)).mono fun e w' he => ⟨_, he.1, (he.2), LU (.cons _ _ _ _ (.ag _ _ (.cons _ _ _ _ (.s _) (.cons _ _ _ _ (.s _) .nil)) (by intro m hm; simp only [List.mem_cons, List.not_mem_nil, or_false] at hm; rcases hm with rfl | rfl <;> rfl)) (.cons _ _ _ _ (.s _) .nil))⟩
theorem Zc {W : World} (hE : cZ ji W) (hM : cZ jU W) (hT : cZ jb W) : MW Tryz.prog W.heap.size (fun w => Below W.heap.size W w) Gv := by
  intro f g vs r hg hr
  unfold Gv at hg
  split at hg
  · cases hg; exact dL.C9 hE hM hT vs r hr
  · cases hg; exact dB.C9 hE hM hT vs r hr
  · cases hg; exact dD.C9 hE hM hT vs r hr
  · cases hg; exact eF.C9 hE hM hT vs r hr
  · cases hg; exact bD.C9 hE hM hT vs r hr
  · cases hg; exact fZ.C9 hE hM hT vs r hr
  · cases hg; exact af.C9 hE hM hT vs r hr
  · exact xZ hE hM hT _ g vs r hg hr
end Go.Proofs.YtieohddolkeegaaGreatDoor.VI

end
section
namespace Go.Proofs.YtieohddolkeegaaGreatDoor.VI
open Go Go.RowKit Go.Proofs.YtieohddolkeegaaGreatDoor.G Go.Proofs.aA.aZ
set_option maxRecDepth 100000
set_option maxHeartbeats 16000000
set_option linter.unusedVariables false
set_option linter.unusedSimpArgs false
attribute [local irreducible] bite jY bG
theorem lK.vi {k m : Nat} {Gv : nK} (hG : Base Gv) (hm : k + 7 ≤ m) (iY : ByteArray) (iq : ByteArray) (tV : Int) (tX : Int) (tY : Int) (tZ : List ByteArray) : Im (fun r => (.bool r, [])) (lK.f k iY iq tV tX tY tZ) (bI Tryz.prog ti keep Gv m 62 [.ag [.str iY, .str iq], .ag [.int tV, .int tX, .int tY, .sl (tZ.map VV.str)]]) := by
  obtain ⟨m, rfl⟩ : ∃ m', m = m' + 1 := ⟨m - 1, by omega⟩
  rw [show bI Tryz.prog ti keep Gv (m + 1) 62 _ = _ from bC ((bq hG 62).trans rfl) Tryz.func62 (by kernel_rfl) rfl rfl]
  unfold lK.f
  conv => arg 3; whnf
  refine Im.call (ae.vi hG ?_ _) ?_ (fun r1 hr1 => ?_)
  omega
  exact zr
  rcases r1 with ⟨a, b, c, p, f⟩
  conv => arg 3; whnf
  refine Im.call (ae.vi hG ?_ _) ?_ (fun r2 hr2 => ?_)
  omega
  exact zr
  rcases r2 with ⟨a', b', c', p', f'⟩
  cases f <;> cases f'
  all_goals (conv => arg 2; simp only [Bool.false_eq_true, reduceIte])
  all_goals dsimp only
  repeat' first
    | ((with_reducible apply Im.vopc); (case h => (intro K'; (conv => lhs; whnf); done))) | (with_reducible first | exact Im.none | refine Im.ite (fun h => ?_) (fun h => ?_) | refine Im.gy ?_)
    | ((conv => arg 3; whnf); first
      | ((with_reducible refine Im.fin ?_); exact zr) | ((with_reducible refine Im.je ?_ ?_); kernel_rfl) | ((with_reducible refine Im.bH ?_ ?_); exact zq) | ((with_reducible refine Im.bJ ?_ ?_); exact zq) | ((with_reducible refine Im.bH ?_ ?_); exact zd) | ((with_reducible refine Im.must ?_ ?_); exact zd) | ((with_reducible refine Im.bJ ?_ ?_); exact zd) | (with_reducible refine Im.qc ?_) | ((with_reducible refine Im.bG ByteArray.empty ?_ ?_ ?_); exact zd; exact zd) | ((with_reducible refine Im.bG z67 ?_ ?_ ?_); exact zd; exact zd) | ((with_reducible refine Im.bG (0 : Int) ?_ ?_ ?_); exact zd; exact zd) | ((with_reducible refine Im.bG false ?_ ?_ ?_); exact zd; exact zd) | ((with_reducible refine Im.call (aC.vi hG ?_ _ _ _ _ _ _ _ _) ?_ (fun r hr => ?_)); omega; exact zr) | ((with_reducible refine Im.call (ae.vi hG ?_ _) ?_ (fun r hr => ?_)); omega; exact zr)
      | exact zm | exact zx | fail)
  all_goals skip
end Go.Proofs.YtieohddolkeegaaGreatDoor.VI

end
section
namespace Go.Proofs.YtieohddolkeegaaGreatDoor.VI
open Go Go.RowKit Go.Proofs.YtieohddolkeegaaGreatDoor.G Go.Proofs.aA.aZ
set_option maxRecDepth 100000
set_option maxHeartbeats 16000000
attribute [local irreducible] bite jY bG
theorem jo.vi {k m : Nat} {Gv : nK} (hG : Base Gv) (hm : k + 9 ≤ m) (a0 : ByteArray) (l1 : List (iR)) : Im (fun r => (.bool r, [])) (jo.f k a0 l1) (bI Tryz.prog ti keep Gv m 23 [.str a0, .sl (l1.map zA)]) := by
  obtain ⟨m, rfl⟩ : ∃ m', m = m' + 1 := ⟨m - 1, by omega⟩
  rw [show bI Tryz.prog ti keep Gv (m + 1) 23 _ = _ from bC ((bq hG 23).trans rfl) Tryz.func23 (by kernel_rfl) rfl rfl]
  unfold jo.f
  repeat' first
   | (with_reducible first | exact Im.none | refine Im.ite (fun h => ?_) (fun h => ?_) | refine Im.gy ?_)
   | ((conv => arg 3; whnf); first
    | ((with_reducible refine Im.fin ?_); exact zr) | ((with_reducible refine Im.je ?_ ?_); kernel_rfl) | ((with_reducible refine Im.bH ?_ ?_); exact zq) | ((with_reducible refine Im.bJ ?_ ?_); exact zq) | ((with_reducible refine Im.bH ?_ ?_); exact zd) | ((with_reducible refine Im.must ?_ ?_); exact zd) | ((with_reducible refine Im.bJ ?_ ?_); exact zd) | (with_reducible refine Im.qc ?_) | ((with_reducible refine Im.bG ByteArray.empty ?_ ?_ ?_); exact zd; exact zd) | ((with_reducible refine Im.bG z67 ?_ ?_ ?_); exact zd; exact zd) | ((with_reducible refine Im.bG (0 : Int) ?_ ?_ ?_); exact zd; exact zd) | ((with_reducible refine Im.bG false ?_ ?_ ?_); exact zd; exact zd) | ((with_reducible refine Im.call (bZ.vi hG ?_ _) ?_ (fun r hr => ?_)); omega; exact zr) | ((with_reducible refine Im.call (ae.vi hG ?_ _) ?_ (fun r hr => ?_)); omega; exact zr) | ((with_reducible refine Im.call (lK.vi hG ?_ _ _ _ _ _ _) ?_ (fun r hr => ?_)); omega; exact zr) | ((with_reducible refine ih1 _ ⟨_, _, _, _, _, _, _⟩ _ ?_ ?_); exact zo; exact zr) | ((with_reducible refine Im.loop (S := fun s : List (iR) × Bool × Int × Int × Int × Int × List ByteArray => .un :: .sl (s.1.map zA) :: .un :: .un :: .un :: .bx [.int s.2.2.2.1, .int s.2.2.2.2.1, .int s.2.2.2.2.2.1, .sl (s.2.2.2.2.2.2.map VV.str)] :: .bool s.2.1 :: .int s.2.2.1 :: u24) (L := fun k s => jo.l0 k s.1 s.2.1 s.2.2.1 s.2.2.2.1 s.2.2.2.2.1 s.2.2.2.2.2.1 s.2.2.2.2.2.2) _ ?_ ?_ _ _ ⟨_, _, _, _, _, _, _⟩ _ (Nat.le_refl _) zo ?_); (next => intro s; rfl); rotate_left; exact zr; intro k1 M1 ⟨x1, x6, x7, Dc, Df, Dh, Di⟩ hk1 hM1 ih1; conv => arg 2; simp only [jo.l0])
    | exact zm | exact zx | fail)
end Go.Proofs.YtieohddolkeegaaGreatDoor.VI

end
section
namespace Go.Proofs.YtieohddolkeegaaGreatDoor.VI
open Go Go.RowKit Go.Proofs.YtieohddolkeegaaGreatDoor.G Go.Proofs.aA.aZ
set_option maxRecDepth 100000
set_option maxHeartbeats 16000000
set_option linter.unusedVariables false
set_option linter.unusedSimpArgs false
attribute [local irreducible] bite jY bG
theorem bf.vi {k m : Nat} {Gv : nK} (hG : Base Gv) (hL8 : Gv 8 = some dL.gv) (hL9 : Gv 9 = some dB.gv) (hL11 : Gv 11 = some dD.gv) (hL14 : Gv 14 = some eF.gv) (hL19 : Gv 19 = some bD.gv) (hL21 : Gv 21 = some fZ.gv) (SH : Gv 96 = some af.gv) (hm : k + 12 ≤ m) (l0 : List Int) : Im (fun r => (.bool r, [])) ((bf.f k l0).bind EK) (bI Tryz.prog ti keep Gv m 3 [.sl (l0.map VV.byte)]) := by
  obtain ⟨m, rfl⟩ : ∃ m', m = m' + 1 := ⟨m - 1, by omega⟩
  rw [show bI Tryz.prog ti keep Gv (m + 1) 3 _ = _ from bC ((bq hG 3).trans rfl) Tryz.func3 (by kernel_rfl) rfl rfl]
  unfold bf.f
  simp only [Ar, yS, yR, yQ, Hf, Hg, bne_iff_ne, ne_eq, ite_not]
  repeat' first
   | ((with_reducible apply Im.vopc); (case h => (intro K'; (conv => lhs; whnf); done))) | ((with_reducible refine Im.nat (fun k => (bf.j0 k _ _ _ _ _ _).bind EK) _ ?_ (fun kj hkj => ?_)); rfl; (conv => arg 2; simp only [bf.j0, Bool.false_eq_true, reduceIte, Ar, yS, yR, yQ, Hf, Hg, bne_iff_ne, ne_eq, ite_not])) | ((with_reducible refine Im.nat (fun k => (bf.j1 k _ _ _ _ _).bind EK) _ ?_ (fun kj hkj => ?_)); rfl; (conv => arg 2; simp only [bf.j1, Bool.false_eq_true, reduceIte, Ar, yS, yR, yQ, Hf, Hg, bne_iff_ne, ne_eq, ite_not])) | ((with_reducible refine Im.nat (fun k => (bf.j2 k _ _ _).bind EK) _ ?_ (fun kj hkj => ?_)); rfl; (conv => arg 2; simp only [bf.j2, Bool.false_eq_true, reduceIte, Ar, yS, yR, yQ, Hf, Hg, bne_iff_ne, ne_eq, ite_not])) | (with_reducible first | exact Im.none | refine Im.ite (fun h => ?_) (fun h => ?_) | refine Im.gy ?_)
   | ((conv => arg 3; whnf); first
    | ((with_reducible refine Im.EK ?_); exact zr) | ((with_reducible refine Im.fin ?_); exact zr) | ((with_reducible refine Im.je ?_ ?_); kernel_rfl) | ((with_reducible refine Im.bH ?_ ?_); exact zq) | ((with_reducible refine Im.bJ ?_ ?_); exact zq) | ((with_reducible refine Im.bH ?_ ?_); exact zd) | ((with_reducible refine Im.must ?_ ?_); exact zd) | ((with_reducible refine Im.bJ ?_ ?_); exact zd) | (with_reducible refine Im.qc ?_) | ((with_reducible refine Im.bG ByteArray.empty ?_ ?_ ?_); exact zd; exact zd) | ((with_reducible refine Im.bG z67 ?_ ?_ ?_); exact zd; exact zd) | ((with_reducible refine Im.bG (0 : Int) ?_ ?_ ?_); exact zd; exact zd) | ((with_reducible refine Im.bG false ?_ ?_ ?_); exact zd; exact zd) | ((with_reducible refine Im.call (qO.vi hG ?_ _) ?_ (fun r hr => ?_)); omega; exact zr) | ((with_reducible refine Im.call (fG.vi hG ?_ _ _) ?_ (fun r hr => ?_)); omega; exact zr) | ((with_reducible refine Im.call (fB.vi hG ?_ _) ?_ (fun r hr => ?_)); omega; exact zr) | ((with_reducible refine Im.call (dK.vi hG ?_ _) ?_ (fun r hr => ?_)); omega; exact zr) | ((with_reducible refine Im.call (dO.vi hG SH ?_ _) ?_ (fun r hr => ?_)); omega; exact zr) | ((with_reducible refine Im.call (xG.vi hG ?_ _) ?_ (fun r hr => ?_)); omega; exact zr) | ((with_reducible refine Im.call (bD.vi hG hL19 ?_ _ _) ?_ (fun r hr => ?_)); omega; exact zr) | ((with_reducible refine Im.call (eF.vi hG hL14 ?_ _) ?_ (fun r hr => ?_)); omega; exact zr) | ((with_reducible refine Im.call (fZ.vi hG hL21 ?_ _) ?_ (fun r hr => ?_)); omega; exact zr) | ((with_reducible refine Im.call (dL.vi hG hL8 ?_ _) ?_ (fun r hr => ?_)); omega; exact zr) | ((with_reducible refine Im.call (dB.vi hG hL9 ?_ _) ?_ (fun r hr => ?_)); omega; exact zr) | ((with_reducible refine Im.call (dD.vi hG hL11 ?_ _) ?_ (fun r hr => ?_)); omega; exact zr) | ((with_reducible refine Im.call (qP.vi hG ?_ _) ?_ (fun r hr => ?_)); omega; exact zr) | ((with_reducible refine Im.call (jo.vi hG ?_ _ _) ?_ (fun r hr => ?_)); omega; exact zr) | ((with_reducible refine Im.call (bZ.vi hG ?_ _) ?_ (fun r hr => ?_)); omega; exact zr) | ((with_reducible refine Im.call (bF.vi hG ?_ _) ?_ (fun r hr => ?_)); omega; exact zr) | ((with_reducible refine Im.call (aH.vi hG ?_ _) ?_ (fun r hr => ?_)); omega; exact zr)
    | exact zm | exact zx | fail)
end Go.Proofs.YtieohddolkeegaaGreatDoor.VI

end
section
namespace Go.Proofs.YtieohddolkeegaaGreatDoor.G
open Go Go.RowKit Go.Proofs.aA.aZ Go.Proofs.YtieohddolkeegaaGreatDoor.VI
set_option maxRecDepth 100000
set_option linter.unusedVariables false
set_option linter.unusedSimpArgs false
theorem bf.calls (k : Nat) (A0 : Option Addr) (c0 : Nat) (l0 : List Int) (r : Bool) (w : World) (hr0 : Kd.C (Kd.int .u8) w A0 l0.length l0) (hc0 : l0.length ≤ c0) (hGE : cZ ji w) (hGM : cZ jU w) (hGT : cZ jb w) (hr_ : r = true) (h : bf.f k l0 = some r) :
  Calls Tryz.prog 3 #[.slice A0 l0.length c0] w fun e w' => e = .returned (.bool r) ∧ Below w.heap.size w w' := by
  have nI : ∀ a b, Below w.heap.size w a → Below w.heap.size a b → Below w.heap.size w b := fun a b h1 h2 => h1.trans h2
  have hok := xR (P := Tryz.prog) (NG := w.heap.size) (GW := fun a => Below w.heap.size w a) VI.hti nI (keep := keep) (Gv := Gv) (Zc hGE hGM hGT) (fun C hC hc => xW (by kernel_rfl) (by rw [hC]; exact VI.hti) nI hc) (k + 12)
  exact ik.calls (hok 3 _ _ rfl (bf.vi (k := k) (m := k + 12) base1 rfl rfl rfl rfl rfl rfl rfl (Nat.le_refl _) l0 _ (by rw [h, hr_]; rfl))) (Below.refl _ _) (Nat.le_refl _) (.cons _ _ _ _ (NI (enc := VV.byte) kv_byte hc0 hr0) .nil)
end Go.Proofs.YtieohddolkeegaaGreatDoor.G

end
section
namespace Go.Proofs.YtieohddolkeegaaGreatDoor.U
open Go Go.RowKit Go.Proofs.aA.aZ
set_option linter.unusedVariables false
set_option linter.unusedSimpArgs false
abbrev B := List UInt8
def L (s : ByteArray) : B := s.data.toList
def S (l : B) : ByteArray := ⟨l.toArray⟩
def I (l : B) : List Int := l.map fun b => (b.toNat : Int)
@[simp] theorem lQ (l : B) : L (S l) = l := by simp [L, S]
@[simp] theorem S_L (s : ByteArray) : S (L s) = s := rfl
theorem mD {s t : ByteArray} (h : L s = L t) : s = t := by rw [← S_L s, ← S_L t, h]
theorem fM (s : ByteArray) : s.size = (L s).length := Go.Lib.size_eq s
@[simp] theorem fD (l : B) : (S l).size = l.length := by rw [fM, lQ]
theorem eY (s : ByteArray) : s.toList = L s := Go.Lib.toList_data s
@[simp] theorem xh (l : B) : (S l).toList = l := by rw [eY, lQ]
@[simp] theorem kX (s t : ByteArray) : L (s ++ t) = L s ++ L t := by simp [L, ByteArray.data_append]
@[simp] theorem Zd (l m : B) : S l ++ S m = S (l ++ m) := mD (by simp)
theorem kC (s : ByteArray) (a b : Nat) : L (s.extract a b) = ((L s).drop a).take (b - a) := Go.Lib.extract_data s a b
@[simp] theorem I_length (l : B) : (I l).length = l.length := by simp [I]
@[simp] theorem I_nil : I [] = [] := rfl
@[simp] theorem str_I (l : B) : strOfNums (I l) = S l := by
 unfold strOfNums I S
 rw [List.map_map]
 congr 2
 have e : ((fun n : Int => UInt8.ofNat n.toNat) ∘ fun b : UInt8 => (b.toNat : Int)) = id := by funext b; simp
 rw [e, List.map_id]
@[simp] theorem str_nil : strOfNums [] = S [] := rfl
theorem bt_S (l : B) (i : Int) (h : i.toNat < l.length) : bt (S l) i = ((l[i.toNat]).toNat : Int) := by
 have h' : i.toNat < (S l).size := by simpa using h
 rw [← bt_at (S l) i h']
 rfl
theorem bt_L (s : ByteArray) (i : Int) (h : i.toNat < (L s).length) : bt s i = (((L s)[i.toNat]).toNat : Int) := by
 have := bt_S (L s) i h
 rwa [S_L] at this
def at_ (l : B) (i : Nat) : UInt8 := l.getD i 0
theorem at_eq (l : B) (i : Nat) (h : i < l.length) : at_ l i = l[i] := by simp [at_, h]
theorem bt_at_ (s : ByteArray) (i : Int) : bt s i = ((at_ (L s) i.toNat).toNat : Int) := by
 by_cases h : i.toNat < (L s).length
 ·rw [bt_L s i h, at_eq _ _ h]
 ·have h2 : ¬ i.toNat < s.size := by rw [fM]; exact h
  have h3 : at_ (L s) i.toNat = 0 := by simp [at_, List.getD_eq_getElem?_getD, List.getElem?_eq_none (Nat.le_of_not_lt h)]
  rw [h3]; unfold bt; rw [dif_neg h2]; rfl
theorem pO (s : ByteArray) (i : Nat) : bt s (i : Int) = ((at_ (L s) i).toNat : Int) := bt_at_ s i
theorem VE (c : UInt8) : (c.toNat : Int) < 256 := by have := c.toNat_lt; omega
theorem vK {c d : UInt8} (h : (c.toNat : Int) = (d.toNat : Int)) : c = d := UInt8.toNat_inj.1 (by omega)
theorem drop_at (l : B) (i : Nat) (h : i < l.length) : l.drop i = at_ l i :: l.drop (i + 1) := by
 rw [at_eq l i h]; exact List.drop_eq_getElem_cons h
theorem take_at (l : B) (i : Nat) (h : i < l.length) : l.take (i + 1) = l.take i ++ [at_ l i] := by
 rw [at_eq l i h, List.take_succ_eq_append_getElem h]
theorem rO {n : Int} (h0 : -9223372036854775808 ≤ n) (h1 : n ≤ 9223372036854775807) : wrap64 n = n := by unfold wrap64; omega
theorem Sv {α : Type} {c : Nat → Prop} [∀ k, Decidable (c k)] {g f : Nat → Option α} {r : α} (hc : ∀ k, c k) (h : Ev g r) : Ev (fun k => if c k then g k else f k) r := Ev.congr (fun k => by rw [if_pos (hc k)]) h
theorem TA {α : Type} {c : Nat → Prop} [∀ k, Decidable (c k)] {g f : Nat → Option α} {r : α} (hc : ∀ k, ¬ c k) (h : Ev f r) : Ev (fun k => if c k then g k else f k) r := Ev.congr (fun k => by rw [if_neg (hc k)]) h
theorem aK {α : Type} {c : Prop} [Decidable c] {g f : Nat → Option α} {r : α} (hc : c) (h : Ev g r) : Ev (fun k => if c then g k else f k) r := Sv (fun _ => hc) h
theorem aY {α : Type} {c : Prop} [Decidable c] {g f : Nat → Option α} {r : α} (hc : ¬ c) (h : Ev f r) : Ev (fun k => if c then g k else f k) r := TA (fun _ => hc) h
theorem kH {α β : Type} {a : α} {f : Nat → α → Option β} {r : β} (h : Ev (fun k => f k a) r) : Ev (fun k => (some a).bind (f k)) r := h
theorem bn {α β : Type} {g : Option α} {a : α} (hg : g = some a) {f : Nat → α → Option β} {r : β} (h : Ev (fun k => f k a) r) : Ev (fun k => g.bind (f k)) r := by subst hg; exact h
theorem eH {α : Type} {g : Nat → Option α} {a b : α} (h : Ev g a) (e : a = b) : Ev g b := e ▸ h
theorem loop_up {σ α : Type} (g : Nat → Int → σ → Option α) (n : Nat) (Inv : Nat → σ → Prop) (res : Nat → σ → α)
  (hend : ∀ st, Inv n st → Ev (fun k => g k (n : Int) st) (res n st))
  (hstep : ∀ i st, i < n → Inv i st → (∀ st', Inv (i + 1) st' → Ev (fun k => g k ((i + 1 : Nat) : Int) st') (res (i + 1) st')) → Ev (fun k => g k (i : Int) st) (res i st)) :
  ∀ i st, i ≤ n → Inv i st → Ev (fun k => g k (i : Int) st) (res i st) := by
 intro i st hi
 obtain ⟨d, hd⟩ : ∃ d, i + d = n := ⟨n - i, by omega⟩
 clear hi
 induction d generalizing i st with
 | zero =>
  intro h
  have e : i = n := by omega
  subst e; exact hend st h
 | succ d ih => intro h; exact hstep i st (by omega) h fun st' h' => ih (i + 1) st' (by omega) h'
theorem inc (i : Nat) (h : i < 9223372036854775807) : wrap64 ((i : Int) + 1) = ((i + 1 : Nat) : Int) := by rw [rO (by omega) (by omega)]; omega
theorem wC (j : Nat) (h : j ≤ 1125899906842624) : wrap64 ((j : Int) + 1) = ((j + 1 : Nat) : Int) := by rw [rO (by omega) (by omega)]; omega
theorem wa4 (j : Nat) (h : j ≤ 1125899906842624) : wrap64 ((j : Int) + 4) = ((j + 4 : Nat) : Int) := by rw [rO (by omega) (by omega)]; omega
theorem ru {p : UInt8 → Prop} (h : ∀ n, n < 256 → p (UInt8.ofNat n)) (c : UInt8) : p c := by
 have := h c.toNat c.toNat_lt
 rwa [UInt8.ofNat_toNat] at this
def GL (left w : Int) : Int := if w ≤ left then left - w else -1
theorem szOut_neg {left w : Int} (h : left < w) : GL left w = -1 := by unfold GL; rw [if_neg (by omega)]
theorem szOut_pos {left w : Int} (h : w ≤ left) : GL left w = left - w := by unfold GL; rw [if_pos h]
def Room (x : Int) : Prop := 0 ≤ x ∧ x ≤ 1048576
theorem room_sub {left : Int} {n : Nat} (hl : Room left) (hn : n ≤ maxLen) : wrap64 (left - (n : Int)) = left - n := by
 unfold Room at hl; exact rO (by unfold maxLen at hn; omega) (by omega)
theorem szOut_add {left v w : Int} (hv : 0 ≤ v) (hw : 0 ≤ w) (h : v ≤ left) : GL (left - v) w = GL left (v + w) := by
 unfold GL; by_cases h1 : w ≤ left - v
 ·rw [if_pos h1, if_pos (by omega)]; omega
 ·rw [if_neg h1, if_neg (by omega)]
def Sz (g : Nat → Int → Option Int) (w : Int) : Prop := 0 ≤ w ∧ ∀ left, Room left → Ev (fun k => g k left) (GL left w)
def sumW {α : Type} (w : α → Int) : List α → Int
 | [] => 0
 | x :: l => w x + sumW w l
def wList {α : Type} (w : α → Int) (l : List α) : Int := l.length + sumW w l
theorem getD_mem {α : Type} (l : List α) (i : Nat) (z : α) (h : i < l.length) : l.getD i z ∈ l := by
 rw [List.getD_eq_getElem?_getD, List.getElem?_eq_getElem h]; exact List.getElem_mem h
theorem mg {α : Type} (l : List α) (i : Nat) (z : α) (h : i < l.length) : l.drop i = l.getD i z :: l.drop (i + 1) := by
 rw [List.getD_eq_getElem?_getD, List.getElem?_eq_getElem h]; exact List.drop_eq_getElem_cons h
def w_StringS (l : List ByteArray) : Int := wList (fun s => (s.size : Int)) l
end Go.Proofs.YtieohddolkeegaaGreatDoor.U

end
section
namespace Go.Proofs.YtieohddolkeegaaGreatDoor.U
open Go Go.RowKit Go.Proofs.aA.aZ Go.Proofs.YtieohddolkeegaaGreatDoor.G
set_option linter.unusedVariables false
def NT : ByteArray := ⟨#[48, 49, 50, 51, 52, 53, 54, 55, 56, 57]⟩
theorem Ze (i : Nat) (h : i < 10) : NT.extract i (i + 1) = S [UInt8.ofNat (48 + i)] := by
 apply mD
 rw [kC, lQ]
 have : ∀ j : Fin 10, ((L NT).drop j.1).take (j.1 + 1 - j.1) = [UInt8.ofNat (48 + j.1)] := by decide
 exact this ⟨i, h⟩
def dig (u : Nat) : B := if u = 0 then [] else Lib.decDigits u
theorem Zf (u : Nat) (h : u ≠ 0) : dig u = dig (u / 10) ++ [UInt8.ofNat (48 + u % 10)] := by
 unfold dig
 rw [if_neg h]
 by_cases h1 : u < 10
 ·rw [if_pos (by omega)]
  unfold Lib.decDigits
  rw [dif_pos h1, Nat.mod_eq_of_lt h1]; rfl
 ·rw [if_neg (by omega)]
  conv => lhs; unfold Lib.decDigits
  rw [dif_neg h1]
theorem Wp (x4 : Int) (u : Nat) (h4 : x4.natAbs = u) (hlo : -9223372036854775808 ≤ x4) (hhi : x4 ≤ 9223372036854775807) :
  (Int.tdiv x4 10).natAbs = u / 10 ∧ (Int.tmod x4 10).natAbs = u % 10 ∧ -922337203685477580 ≤ Int.tdiv x4 10 ∧ Int.tdiv x4 10 ≤ 922337203685477580 := by
 have hd : (Int.tdiv x4 10).natAbs = u / 10 := by rw [Int.natAbs_tdiv, h4]; rfl
 have hm : (Int.tmod x4 10).natAbs = u % 10 := by rw [Int.natAbs_tmod, h4]; rfl
 refine ⟨hd, hm, ?_, ?_⟩ <;> omega
theorem dec_idx (t : Int) (v : Nat) (hv : v < 10) (hm : t.natAbs = v) (hn : t < 0) : wrap64 (-t) = (v : Int) := by rw [rO (by omega) (by omega)]; omega
theorem VF (x0 : Int) (x3 : ByteArray) (h : x3.size ≤ 40) (k : Nat) : dA.l0 (k + 1) x0 x3 0 = some (S ((if x0 < 0 then [45] else []) ++ (dig 0 ++ L x3))) := by
 rw [dA.l0, if_pos rfl]
 by_cases hn : x0 < 0
 ·rw [if_pos hn, if_pos hn, if_pos (by omega)]; rfl
 ·rw [if_neg hn, if_neg hn]; rfl
theorem dec_go (x0 x4 t q : Int) (x3 : ByteArray) (v : Nat) (hv : v < 10) (hx : ¬ x4 = 0) (hT : Int.tmod x4 10 = t) (hQ : Int.tdiv x4 10 = q) (hq : wrap64 q = q) (hm : t.natAbs = v) (h3 : x3.size ≤ 40) (k : Nat) :
  dA.l0 (k + 1) x0 x3 x4 = dA.l0 k x0 (S [UInt8.ofNat (48 + v)] ++ x3) q := by
 have hone : (S [UInt8.ofNat (48 + v)]).size = 1 := by rw [fD]; rfl
 have e2 : wrap64 ((v : Int) + 1) = ((v + 1 : Nat) : Int) := wC _ (by omega)
 have e3 := Ze v hv
 unfold NT at e3
 have b1 : (0 : Int) ≤ (v : Int) := by omega
 have b2 : (v : Int) ≤ ((v + 1 : Nat) : Int) := by omega
 have b3 : ((v + 1 : Nat) : Int) ≤ 10 := by omega
 have b4 : (S [UInt8.ofNat (48 + v)]).size + x3.size ≤ 9223372036854775807 := by rw [hone]; omega
 rw [dA.l0, if_neg hx, hT, hQ, hq]
 by_cases hn : t < 0
 ·rw [if_pos hn, dec_idx t v hv hm hn, e2, if_pos b1, if_pos b2, if_pos b3, Int.toNat_natCast, Int.toNat_natCast, e3, if_pos b4]
 ·have e1 : t = (v : Int) := by omega
  rw [if_neg hn, e1, e2, if_pos b1, if_pos b2, if_pos b3, Int.toNat_natCast, Int.toNat_natCast, e3, if_pos b4]
theorem JD (x0 : Int) : ∀ d (u : Nat) (x4 : Int) (x3 : ByteArray), u < 10 ^ d → x4.natAbs = u → -9223372036854775808 ≤ x4 → x4 ≤ 9223372036854775807 → x3.size + d ≤ 40 →
  Ev (fun k => dA.l0 k x0 x3 x4) (S ((if x0 < 0 then [45] else []) ++ (dig u ++ L x3))) := by
 intro d
 induction d with
 | zero =>
  intro u x4 x3 hu h4 _ _ hs
  have e2 : u = 0 := by simpa using hu
  subst e2
  have e : x4 = 0 := Int.natAbs_eq_zero.1 h4
  subst e
  exact Ev.step (f := fun _ => some _) (VF x0 x3 (by omega)) (Ev.now _)
 | succ d ih =>
  intro u x4 x3 hu h4 hlo hhi hs
  by_cases hz : u = 0
  ·subst hz
   have e : x4 = 0 := Int.natAbs_eq_zero.1 h4
   subst e
   exact Ev.step (f := fun _ => some _) (VF x0 x3 (by omega)) (Ev.now _)
  ·have hx : ¬ x4 = 0 := fun e => hz (by rw [← h4, e]; rfl)
   obtain ⟨hd, hm, q1, q2⟩ := Wp x4 u h4 hlo hhi
   have h10 : u / 10 < 10 ^ d := by rw [Nat.div_lt_iff_lt_mul (by decide)]; rw [Nat.pow_succ] at hu; exact hu
   have hone : (S [UInt8.ofNat (48 + u % 10)]).size = 1 := by rw [fD]; rfl
   clear hu h4
   rw [Zf u hz]
   refine Ev.step (dec_go x0 x4 _ _ x3 (u % 10) (Nat.mod_lt _ (by decide)) hx rfl rfl (rO (by omega) (by omega)) hm (by omega)) ?_
   refine eH (ih (u / 10) _ (S [UInt8.ofNat (48 + u % 10)] ++ x3) h10 hd (by omega) (by omega) (by rw [ByteArray.size_append, hone]; omega)) ?_
   rw [kX, lQ]; simp
theorem Zg (n : Int) (h : n ≠ 0) : Lib.itoa n = (if n < 0 then [45] else []) ++ dig n.natAbs := by
 unfold Lib.itoa dig
 by_cases hn : n < 0
 ·rw [if_pos hn, if_pos hn, if_neg (by omega)]; rfl
 ·rw [if_neg hn, if_neg hn, if_neg (by omega)]
  have : n.toNat = n.natAbs := by omega
  rw [this]; rfl
theorem qL (n : Int) (h0 : -9223372036854775808 ≤ n) (h1 : n ≤ 9223372036854775807) : Ev (fun k => dA.f k n) (S (Lib.itoa n)) := by
 unfold dA.f
 by_cases h : n = 0
 ·subst h; refine aK rfl (eH (Ev.now _) ?_)
  apply mD; rw [lQ]; unfold Lib.itoa; rw [if_neg (by omega)]; unfold Lib.decDigits; rw [dif_pos (by decide)]; rfl
 ·refine aY h ?_
  rw [Zg n h]
  refine eH (JD n 20 n.natAbs n ⟨#[]⟩ (by omega) rfl h0 h1 (by decide)) ?_
  congr 1
  show _ ++ (_ ++ ([] : B)) = _
  rw [List.append_nil]
theorem nZ (n : Int) (h0 : -9223372036854775808 ≤ n) (h1 : n ≤ 9223372036854775807) : iP.f n = some (S (Lib.itoa n)) := by
 unfold iP.f strconv_Itoa.f
 rw [if_pos ⟨h0, h1⟩]; rfl
def gJ (c : UInt8) : B → B → List B
 | p, [] => [p]
 | p, x :: l => if x = c then p :: gJ c [] l else gJ c (p ++ [x]) l
theorem vN (c : UInt8) : ∀ l p, 1 ≤ (gJ c p l).length ∧ (gJ c p l).length ≤ l.length + 1 := by
 intro l
 induction l with
 | nil => intro p; simp [gJ]
 | cons x l ih =>
  intro p
  unfold gJ
  by_cases h : x = c
  ·rw [if_pos h]; have := ih []; simp only [List.length_cons]; omega
  ·rw [if_neg h]; have := ih (p ++ [x]); simp only [List.length_cons]; omega
theorem Jq (s : ByteArray) (c : UInt8) (hs : s.size ≤ 1048576) : ∀ d j (a : Nat) (x5 : List ByteArray), j + d = (L s).length → a ≤ j → x5.length ≤ j →
  Ev (fun k => dF.l0 k s (c.toNat : Int) x5 (a : Int) (j : Int)) (x5 ++ (gJ c (((L s).take j).drop a) ((L s).drop j)).map S) := by
 rw [fM] at hs
 intro d
 induction d with
 | zero =>
  intro j a x5 hj ha h5
  have e : j = (L s).length := by omega
  subst e
  rw [List.drop_length, List.take_length]
  refine Ev.step (f := fun _ => some (x5 ++ (gJ c ((L s).drop a) []).map S)) (fun k => ?_) (Ev.now _)
  have e1 : s.extract (((a : Nat) : Int)).toNat s.size = S ((L s).drop a) := by
   apply mD; rw [kC, lQ, Int.toNat_natCast, fM, List.take_of_length_le (by rw [List.length_drop]; omega)]
  rw [dF.l0, if_neg (by rw [fM]; omega), if_pos (by omega), if_pos (by rw [fM]; omega), if_pos (by omega), e1]
  rfl
 | succ d ih =>
  intro j a x5 hj ha h5
  have h : j < (L s).length := by omega
  rw [drop_at (L s) j h]
  by_cases hc : at_ (L s) j = c
  ·have e1 : s.extract (((a : Nat) : Int)).toNat ((j : Int)).toNat = S (((L s).take j).drop a) := by
    apply mD; rw [kC, lQ, Int.toNat_natCast, Int.toNat_natCast, List.drop_take]
   refine Ev.step (f := fun k => dF.l0 k s (c.toNat : Int) (x5 ++ [S (((L s).take j).drop a)]) ((j + 1 : Nat) : Int) ((j + 1 : Nat) : Int)) (fun k => ?_) ?_
   ·rw [dF.l0, if_pos (by rw [fM]; omega), if_pos (by omega), pO, if_pos (by rw [hc]), if_pos (by omega), if_pos (by omega), if_pos (by rw [fM]; omega), if_pos (by omega), e1, wC j (by omega)]
   ·refine eH (ih (j + 1) (j + 1) _ (by omega) (Nat.le_refl _) (by rw [List.length_append]; simp; omega)) ?_
    have e2 : ((L s).take (j + 1)).drop (j + 1) = [] := List.drop_eq_nil_of_le (by rw [List.length_take]; omega)
    rw [e2]
    conv => rhs; unfold gJ
    rw [if_pos hc, List.map_cons, List.append_assoc]; rfl
  ·have hb : ¬ ((at_ (L s) j).toNat : Int) = (c.toNat : Int) := fun e => hc (vK e)
   refine Ev.step (f := fun k => dF.l0 k s (c.toNat : Int) x5 (a : Int) ((j + 1 : Nat) : Int)) (fun k => ?_) ?_
   ·rw [dF.l0, if_pos (by rw [fM]; omega), if_pos (by omega), pO, if_neg hb, wC j (by omega)]
   ·refine eH (ih (j + 1) a x5 (by omega) (by omega) (by omega)) ?_
    have e2 : ((L s).take (j + 1)).drop a = ((L s).take j).drop a ++ [at_ (L s) j] := by
     rw [take_at (L s) j h, List.drop_append_of_le_length (by rw [List.length_take]; omega)]
    rw [e2]
    conv => rhs; unfold gJ
    rw [if_neg hc]
theorem mf (s : ByteArray) (c : UInt8) (hs : s.size ≤ 1048576) : Ev (fun k => dF.f k s (c.toNat : Int)) ((gJ c [] (L s)).map S) := by
 have := Jq s c hs (L s).length 0 0 [] (by omega) (by omega) (by simp)
 unfold dF.f
 simpa using this
theorem TB (c : UInt8) : ∀ (p l : B), c ∉ p → Lib.indexByte (p ++ c :: l) c = (p.length : Int) := by
 intro p
 induction p with
 | nil => intro l _; simp [Lib.indexByte]
 | cons x p ih =>
  intro l h
  simp only [List.mem_cons, not_or] at h
  have hx : ¬ x = c := fun e => h.1 e.symm
  have := ih l h.2
  rw [List.cons_append]
  unfold Lib.indexByte
  rw [if_neg (by simpa using hx), this, if_neg (by simp), List.length_cons]; omega
theorem TC (c : UInt8) : ∀ (l p : B), c ∉ p → Lib.splitK [c] 0 ((p ++ l).count c) (p ++ l) = gJ c p l := by
 intro l
 induction l with
 | nil =>
  intro p hp
  rw [List.append_nil, List.count_eq_zero_of_not_mem hp]; rfl
 | cons x l ih =>
  intro p hp
  unfold gJ
  by_cases h : x = c
  ·subst h
   rw [if_pos rfl]
   have e : (p ++ x :: l).count x = l.count x + 1 := by rw [List.count_append, List.count_eq_zero_of_not_mem hp, List.count_cons_self]; omega
   have ei : Lib.index (p ++ x :: l) [x] = (p.length : Int) := by rw [Lib.index_one, TB x p l hp]
   rw [e, Lib.splitK, if_neg (by rw [ei]; simp), ei, Int.toNat_natCast, List.take_left']
   ·have ed : (p ++ x :: l).drop (p.length + [x].length) = l := by rw [List.drop_append]; simp
    rw [ed]; congr 1
    exact ih [] (by simp)
   ·simp
  ·rw [if_neg h]
   have := ih (p ++ [x]) (by simp only [List.mem_append, List.mem_singleton, not_or]; exact ⟨hp, fun e => h e.symm⟩)
   rw [List.append_assoc] at this; exact this
theorem FD (s : ByteArray) (c : UInt8) (hs : s.size ≤ 1048576) : strings_Split.f s (S [c]) = some ((gJ c [] (L s)).map S) := by
 unfold strings_Split.f
 rw [if_pos ⟨by omega, by simp⟩]
 congr 1
 have e1 : (S [c]).data.toList = [c] := lQ [c]
 have e2 : Lib.countB s (S [c]) = (L s).count c := by
  show Lib.count s.data.toList (S [c]).data.toList = _
  rw [e1, Lib.count_one]; rfl
 have e3 := Lib.splitB_data (S [c]) 0 (Lib.countB s (S [c])) s
 rw [e1, e2] at e3
 have e4 := TC c (L s) [] (by simp)
 rw [List.nil_append] at e4
 rw [e2]
 have e5 : (Lib.splitB (S [c]) 0 ((L s).count c) s).map L = gJ c [] (L s) := e3.trans e4
 rw [← e5, List.map_map]
 have : (S ∘ L) = (id : ByteArray → ByteArray) := by funext x; exact S_L x
 rw [this, List.map_id]
end Go.Proofs.YtieohddolkeegaaGreatDoor.U

end
section
namespace Go.Proofs.YtieohddolkeegaaGreatDoor.U
open Go Go.RowKit Go.Proofs.aA.aZ Go.Proofs.YtieohddolkeegaaGreatDoor.G
set_option linter.unusedVariables false
set_option linter.unusedSimpArgs false
def idx (l : B) (c : UInt8) : Int := Lib.indexByte l c
theorem NU (c : UInt8) : idx [] c = -1 := rfl
theorem oZ (b : UInt8) (l : B) (c : UInt8) : idx (b :: l) c = if b = c then 0 else if idx l c = -1 then -1 else idx l c + 1 := by
 show Lib.indexByte (b :: l) c = _
 rw [Lib.indexByte]
 by_cases h : b = c
 ·simp [h]
 ·simp [h]; rfl
theorem FH (l : B) (c : UInt8) : -1 ≤ idx l c := Lib.indexByte_ge l c
theorem NV (l : B) (c : UInt8) : idx l c < l.length := by
 induction l with
 | nil => rw [NU]; simp
 | cons b l ih =>
  rw [oZ, List.length_cons]
  split
  ·omega
  ·split <;> omega
def idxFrom (l : B) (c : UInt8) (i : Nat) : Int := if idx (l.drop i) c = -1 then -1 else (i : Int) + idx (l.drop i) c
theorem NW (l : B) (c : UInt8) : idxFrom l c 0 = idx l c := by
 unfold idxFrom; rw [List.drop_zero]; split
 ·rename_i h; rw [h]
 ·simp
theorem Jr (s : ByteArray) (c : UInt8) (hs : s.size ≤ 1099511627776) : Ev (fun k => fK.f k s (c.toNat : Int)) (idx (L s) c) := by
 rw [← NW]
 refine loop_up (fun k i (_ : Unit) => fK.l0 k s (c.toNat : Int) i) (L s).length (fun _ _ => True) (fun i _ => idxFrom (L s) c i) ?_ ?_ 0 () (by omega) trivial
 ·intro st _
  refine Ev.step (f := fun k => some (-1)) (fun k => by rw [fK.l0, if_neg (by rw [fM]; omega)]) ?_
  refine eH (Ev.now _) ?_
  unfold idxFrom; rw [List.drop_length, NU, if_pos rfl]
 ·intro i st hi _ ih
  have hz : (i : Int) < (s.size : Int) := by rw [fM]; omega
  by_cases h : at_ (L s) i = c
  ·refine Ev.step (f := fun k => some (i : Int)) (fun k => ?_) (eH (Ev.now _) ?_)
   ·rw [fK.l0, if_pos hz, if_pos (by omega), pO, h, if_pos rfl]
   ·unfold idxFrom; rw [drop_at _ _ hi, oZ, if_pos h]; simp
  ·refine Ev.step (f := fun k => fK.l0 k s (c.toNat : Int) ((i + 1 : Nat) : Int)) (fun k => ?_) (eH (ih () trivial) ?_)
   ·rw [fK.l0, if_pos hz, if_pos (by omega), pO, if_neg (fun e => h (vK e)), inc i (by rw [← fM] at hi; omega)]
   ·unfold idxFrom; rw [drop_at _ _ hi, oZ, if_neg h]
    have := FH ((L s).drop (i + 1)) c
    split
    ·rfl
    ·rw [if_neg (by omega)]; omega
end Go.Proofs.YtieohddolkeegaaGreatDoor.U

end
