/- A part of the proof that the law FnRange answers true at every input that its row speaks of. Conditions: the row's own. -/
import Derived.Test.YtieohddolkeegaaGreatDoorMFnRange5
import Derived.Test.YtieohddolkeegaaGreatDoorOpZ
import Derived.Test.YtieohddolkeegaaGreatDoorKFnRange0
import Derived.Test.YtieohddolkeegaaGreatDoorMFnRange0
import Derived.Test.YtieohddolkeegaaGreatDoorMFnRange1
import Derived.Test.YtieohddolkeegaaGreatDoorKFnRange1
section
namespace Go.Proofs.YtieohddolkeegaaGreatDoor.G
open Go Go.RowKit Go.Proofs.aA.aZ Go.Proofs.YtieohddolkeegaaGreatDoor.VI
set_option maxRecDepth 100000
set_option linter.unusedVariables false
set_option linter.unusedSimpArgs false
theorem dM.calls (k : Nat) (a0 : Int) (a1 : Int) (a2 : Int) (r : ByteArray) (w : World) (hGE : cZ ji w) (hGM : cZ jU w) (hGT : cZ jb w) (h : dM.f k a0 a1 a2 = some r) :
  Calls Tryz.prog 95 #[.int .i64 a0, .int .i64 a1, .int .i64 a2] w fun e w' => e = .returned (.string r) ∧ Below w.heap.size w w' := by
  have nI : ∀ a b, Below w.heap.size w a → Below w.heap.size a b → Below w.heap.size w b := fun a b h1 h2 => h1.trans h2
  have hok := xR (P := Tryz.prog) (NG := w.heap.size) (GW := fun a => Below w.heap.size w a) VI.hti nI (keep := keep) (Gv := Gv0) (xZ hGE hGM hGT) (fun C hC hc => xW (by kernel_rfl) (by rw [hC]; exact VI.hti) nI hc) (k + 7)
  exact ik.calls (hok 95 _ _ rfl (dM.vi (k := k) (m := k + 7) base0 (Nat.le_refl _) a0 a1 a2 _ h)) (Below.refl _ _) (Nat.le_refl _) (.cons _ _ _ _ (.s _) (.cons _ _ _ _ (.s _) (.cons _ _ _ _ (.s _) .nil)))
end Go.Proofs.YtieohddolkeegaaGreatDoor.G

end
section
namespace Go.Proofs.YtieohddolkeegaaGreatDoor.G
open Go.RowKit Go.Proofs.aA.aZ Go.Proofs.aA.jM Go.Proofs.aA.mW
attribute [local go_sem] qj ql uO uP o8 o9 qm qo
attribute [local go_sem high] Go.Proofs.YtieohddolkeegaaGreatDoor.G.sH Go.Proofs.YtieohddolkeegaaGreatDoor.G.sJ Go.Proofs.YtieohddolkeegaaGreatDoor.G.sK
set_option linter.unusedVariables false
set_option linter.unusedSimpArgs false
set_option maxHeartbeats 8000000 in
set_option maxRecDepth 100000 in
theorem aH.calls (k : Nat) (a0 : ByteArray) (r1 : List (iR)) (r2 : Bool) (w : World) (hGE : cZ ji w) (hGM : cZ jU w) (hGT : cZ jb w) (h : aH.f k a0 = some (r1, r2)) :
  Calls Tryz.prog 13 #[.string a0] w fun e w' => ∃ KC : Value, e = .returned (.tuple #[KC, .bool r2]) ∧ Kd.R GX 67 w' w.heap.size (fun _ => True) KC r1 ∧ Below w.heap.size w w' := by
 have hu67 := Tryz.underlying67
 have HB := am (Below.refl w.heap.size w)
 have xu := am hGE
 clear hGE
 have xw := am hGM
 clear hGM
 have ve := am hGT
 clear hGT
 have H : ((some (([] : List (iR)) : List (iR))).bind fun Hu => ((aj.f k a0).bind fun rP => (if (a0.size : Int) > 200 then (aH.j0 k Hu rP true) else (aH.j0 k Hu rP (decide ((rP.length : Int) > 8)))))) = some (r1, r2) := h
 clear h
 obtain ⟨Hu, Pg⟩ : ∃ y_ : List (iR), y_ = (([] : List (iR))) := ⟨_, rfl⟩
 replace H : ((aj.f k a0).bind fun rP => (if (a0.size : Int) > 200 then (aH.j0 k Hu rP true) else (aH.j0 k Hu rP (decide ((rP.length : Int) > 8))))) = some (r1, r2) := by first | (rw [Pg]; with_reducible exact H) | (have rZ := (Option.bind_some _ _).symm.trans H; rw [Pg]; with_reducible exact rZ) | (have rZ := (Option.bind_some _ _).symm.trans H; with_reducible exact rZ) | with_reducible exact H | (rw [Pg]; exact H) | exact H
 have Ny305 := am Pg
 clear Pg
 replace H := Option.bind_eq_some_iff.mp H
 obtain ⟨rP, zU, H⟩ := H
 try dsimp only at H
 have A2 := am zU
 clear zU
 have HC3 := am H
 clear H
 go_enter Tryz.func13, Tryz.ntmps13
 go_upto_region 3 with (first | ((with_reducible refine jF (N := 9) rfl ?_); (try (refine vV (by rfl) ?_; dsimp only)); refine Kd.su GX _ 67 ?hg (N := 9) ?hd (xs := ([] : List (iR))) (inner := []) (ok := fun _ => True) (okp := fun _ => True) ?hr ?hp (fun _ hk => hk) trivial (Below.refl _ _) (Nat.le_refl _) gB ?_; (case hd => rfl); (case hg => rfl); (case hr => exact oI); (case hp => exact (oJ.none _ _)); intro v306 w4 ho5 hb xH jf; clear xH jf; (first | rw [← Ny305.out] at ho5 | (simp only [Int.reduceToNat] at ho5; rw [← Ny305.out] at ho5)); have Um := am (Kd.iT ho5 (eP uA)); replace HB := am (bK uA hb); clear hb ho5) | ((with_reducible refine aW (f := 50) rfl ?_); refine dU (some 11) rfl rfl Tryz.func50 dw rfl #[.string a0] rfl lV ?_; (with_reducible refine (aj.calls k a0 rP _ A2.out).mono ?_); rintro e w6 ⟨v309, rfl, ho0, hb⟩; refine ⟨_, rfl, ?_⟩; replace Um := am (Kd.bQ (zR Um.out) hb); have ZE := am (Kd.iT ho0 (eP uA)); replace HB := am (bK uA hb); (try clear hb); (try clear ho0)))
 (try simp only [Act.put, List.setIfInBounds_toArray, List.set_cons_zero, List.set_cons_succ])
 go_cut [19] (fun v19 wc => ∃ (kq : Nat) (Un : Bool), v19 = .bool Un ∧ dC (aH.j0 kq Hu rP Un = some (r1, r2)) ∧ dC (kq ≤ k) ∧ dC (Kd.R GX 67 wc w.heap.size (fun _ => True) v306 Hu) ∧ dC (Kd.R Kd.string 9 wc w.heap.size (fun _ => True) v309 rP) ∧ dC (Below w.heap.size w wc))
 case first =>
  have H := HC3.out
  clear HC3
  by_cases c7 : (a0.size : Int) > 200
  ·rw [if_pos c7] at H
   have zD : decide (200 < (a0.size : Int)) = true := decide_eq_true c7
   have OL : decide (200 < a0.size) = true := decide_eq_true mY
   clear c7
   (first | rw [zD] | (simp only [jG, jL]; rw [zD]) | skip)
   have H' := am H
   clear H
   go_wp2
   go_meet
   case rel => exact ⟨_, (true), oH, H', ⟨MI⟩, ⟨(zR Um.out)⟩, ⟨(zR ZE.out)⟩, ⟨uA⟩⟩
  ·rw [if_neg c7] at H
   have zD : decide (200 < (a0.size : Int)) = false := decide_eq_false c7
   have OL : decide (200 < a0.size) = false := decide_eq_false mY
   clear c7
   (first | rw [zD] | (simp only [jG, jL]; rw [zD]) | skip)
   have H' := am H
   clear H
   obtain ⟨Ao8, co8, eo8⟩ := Kd.iK ZE.out
   subst eo8
   go_wp2
   go_meet
   case rel => exact ⟨_, (decide ((rP.length : Int) > 8)), oH, H', ⟨MI⟩, ⟨(zR Um.out)⟩, ⟨(zR ZE.out)⟩, ⟨uA⟩⟩
 case rest =>
  clear HC3
  try clear c1
  try clear p2
  try clear c5
  try clear c7
  try clear zD
  try clear OL
  obtain ⟨kq, Un, rfl, HA, HJ2, iV, fV, HB⟩ := hcut
  cases kq with
  | zero => exact absurd HA.out (by simp [aH.j0])
  | succ kj2 =>
   have H := HA.out
   clear HA
   simp only [aH.j0] at H
   by_cases c9 : Un = true
   ·subst c9
    rw [if_pos rfl] at H
    simp only [Option.some.injEq, Prod.mk.injEq] at H
    obtain ⟨rfl, rfl⟩ := H
    go_wp2
    go_ret2
    exact ⟨_, pY, (zR iV.out), uA⟩
   ·replace c9 := Bool.eq_false_iff.mpr c9
    subst c9
    rw [if_neg (show ¬ (false = true) by decide)] at H
    have H' := am H
    clear H
    go_wp2
    go_loopg [4, 6] kj2 (fun kq v4 v6 w' => ∃ (WS : List (iR)) (x9 : Int), v6 = .int .i64 x9 ∧ dC (aH.l0 kq WS rP x9 = some (r1, r2)) ∧ dC (kq ≤ kj2) ∧ dC (Kd.R GX 67 w' w.heap.size (fun _ => True) v4 WS) ∧ dC (Kd.R Kd.string 9 w' w.heap.size (fun _ => True) v309 rP) ∧ dC (Below w.heap.size w w'))
    case atStart => exact ⟨(Hu), (0), oH, H', ⟨Nat.le_refl _⟩, ⟨(zR iV.out)⟩, ⟨(zR fV.out)⟩, ⟨uA⟩⟩
    case round =>
     clear H'
     try clear c1
     try clear p2
     try clear c5
     try clear c7
     try clear zD
     try clear OL
     try clear c9
     try clear p2
     obtain ⟨WS, x9, rfl, HA, NQ, iV, fV, HB⟩ := hrel
     cases gk with
     | zero => exact absurd HA.out (by simp [aH.l0])
     | succ k2 =>
      have H := HA.out
      clear HA
      simp only [aH.l0] at H
      by_cases c10 : x9 < (rP.length : Int)
      ·rw [if_pos c10] at H
       have KD : decide (x9 < (rP.length : Int)) = true := decide_eq_true c10
       clear c10
       by_cases c11 : 0 ≤ x9
       ·rw [if_pos c11] at H
        have Xt : decide (0 ≤ x9) = true := decide_eq_true c11
        clear c11
        replace H := Option.bind_eq_some_iff.mp H
        obtain ⟨⟨AA, BL, t314⟩, A120, H⟩ := H
        try dsimp only at H
        have A12 := am A120
        clear A120
        by_cases c13 : t314 = true
        ·subst c13
         rw [if_pos rfl] at H
         by_cases c14 : WS.length < 4398046511104
         ·rw [if_pos c14] at H
          have LMc14 := am c14
          clear c14
          obtain ⟨y316, Ph⟩ : ∃ y_ : List (iR), y_ = (WS ++ [(⟨AA, BL⟩ : iR)]) := ⟨_, rfl⟩
          replace H : (aH.l0 k2 y316 rP (wrap64 (x9 + 1))) = some (r1, r2) := by first | (rw [Ph]; with_reducible exact H) | (have rZ := (Option.bind_some _ _).symm.trans H; rw [Ph]; with_reducible exact rZ) | (have rZ := (Option.bind_some _ _).symm.trans H; with_reducible exact rZ) | with_reducible exact H | (rw [Ph]; exact H) | exact H
          have Ny316 := am Ph
          clear Ph
          have H' := am H
          clear H
          obtain ⟨Ao15, co15, eo15⟩ := Kd.iK fV.out
          subst eo15
          have SI : 0 ≤ (x9 : Int) := of_decide_eq_true kJ
          have SK : x9 < (rP.length : Int) := of_decide_eq_true kJ
          obtain ⟨ad311, e311, hx311_0⟩ := Kd.xI (Kd.eG fV.out).2.2 x9 SI SK
          cases e311
          replace SI := eq_true SI
          replace SK := eq_true SK
          go_wp2_with (first | ((with_reducible refine aW (f := 51) rfl ?_); refine dU (some 32) rfl rfl Tryz.func51 dw rfl #[.string (iE ByteArray.empty rP x9)] rfl lV ?_; (with_reducible refine (aJ.calls k2 (iE ByteArray.empty rP x9) AA BL true _ ?side1 ?side2 ?side3 A12.out).mono ?_); (case side1 => exact cZ.below xu.out uA); (case side2 => exact cZ.below xw.out uA); (case side3 => exact cZ.below ve.out uA); rintro e w16 ⟨rfl, hb⟩; refine ⟨_, rfl, ?_⟩; replace iV := am (Kd.bQ (zR iV.out) hb); replace fV := am (Kd.bQ (zR fV.out) hb); replace HB := am (bK uA hb); (try clear hb)) | ((with_reducible refine jF (N := 7) rfl ?_); (try (refine vV (by rfl) ?_; dsimp only)); refine uk ?hg (N := 7) ?hd (cs := #[.string (⟨#[]⟩ : ByteArray), .string (⟨#[]⟩ : ByteArray)]) (t := 67) ?hr ?_; (case hd => rfl); (case hg => rfl); (case hr => exact oI); intro lL hg w17 hbox hb; replace iV := am (Kd.bQ (Kd.Pj (zR iV.out) lL (Nat.le_of_eq hg.symm)) hb); replace fV := am (Kd.bQ (zR fV.out) hb); have wQ := am hbox; have GW315 := am ((by rw [hg]; exact (eP uA) : w.heap.size ≤ lL)); have GE315 := am ((by rw [hg]; exact (eP uA) : w.heap.size ≤ lL)); replace HB := am (bK uA hb); clear hb hbox hg; have hcz18_0 : w17.cell? ⟨lL, 0, none⟩ = some (.string (⟨#[]⟩ : ByteArray)) := bc wQ.out 0; have hcz18_1 : w17.cell? ⟨lL, 1, none⟩ = some (.string (⟨#[]⟩ : ByteArray)) := bc wQ.out 1; have hfz18_0 := aX wQ.out 0; have hfz18_1 := aX wQ.out 1) | ((with_reducible refine uQ (b := .append) (xs := #[.tmp 38, .tmp 40]) rfl ?_); (try (refine vV (by rfl) ?_; dsimp only)); at_builtin; refine Kd.Dk GX (w0 := w) w.heap.size rfl (.tmp 38) (.tmp 40) 24 67 (.agg #[(.string ⟨#[]⟩), (.string ⟨#[]⟩)]) 32 rfl Tryz.underlying24 info67 rfl dY mY u4 WS (⟨AA, BL⟩ : iR) [.string AA, .string BL] (fun k_ => k_ ≠ lL) (fun _ => False) rfl oI ?aP (fun _ hk => hk.elim) ?aF ?aO ?aB ?aS ?aL ?_; (case aP => exact Td _ _ _ (⟨AA, BL⟩ : iR)); (case aB => exact WT); (case aF => exact (fun k_ hk => Kd.freshB (g := lL) (o := .cells #[.string AA, .string BL] 67 (0, 0)) zb18 k_ hk)); (case aO => exact (zR (Kd.gG (Kd.gV (p := ⟨lL, 1, none⟩) (Kd.gV (p := ⟨lL, 0, none⟩) (Kd.gG iV.out (fun k_ hk => (⟨hk, hk.2⟩ : _ ∧ k_ ≠ lL))) (fun _ hk => hk.2) (.string AA)) (fun _ hk => hk.2) (.string BL)) (fun _ hk => hk.1.2)))); (case aS => exact (eP WT)); (case aL => have := LMc14.out; omega); intro v317 w19 ho hb hg hat; rw [← Ny316.out] at ho; replace fV := am (Kd.uU (zR (Kd.gG (Kd.gV (p := ⟨lL, 1, none⟩) (Kd.gV (p := ⟨lL, 0, none⟩) (Kd.iQ fV.out wQ.out dY) (fun _ hk => hk.2) (.string AA)) (fun _ hk => hk.2) (.string BL)) (fun _ h_ => h_.1))) (Kd.uV (zR (Kd.gG (Kd.gV (p := ⟨lL, 1, none⟩) (Kd.gV (p := ⟨lL, 0, none⟩) (Kd.gG iV.out (fun k_ hk => (⟨hk, hk.2⟩ : _ ∧ k_ ≠ lL))) (fun _ hk => hk.2) (.string AA)) (fun _ hk => hk.2) (.string BL)) (fun _ h_ => h_.1)))) dY hg); replace wQ := am (nz (g := lL) (o := .cells #[.string AA, .string BL] 67 (0, 0)) zb18 hg (Kd.R_away iV.out (fun _ hk => hk.2))); replace HB := am hb; have HO318 := am ho; clear iV ho hb hg hat))
          go_roundg k2
          case measure => have := HJ2.out; have := NQ.out; omega
          case rel => exact ⟨(y316), (wrap64 (x9 + 1)), oH, H', ⟨by have := HJ2.out; have := NQ.out; omega⟩, ⟨(zR (Kd.gG HO318.out (fun _ hk => trivial)))⟩, ⟨(zR fV.out)⟩, ⟨WT⟩⟩
         ·rw [if_neg c14] at H
          exact absurd H gB
        ·replace c13 := Bool.eq_false_iff.mpr c13
         subst c13
         rw [if_neg (show ¬ (false = true) by decide)] at H
         obtain ⟨y319, Pm⟩ : ∃ y_ : List (iR), y_ = (([] : List (iR))) := ⟨_, rfl⟩
         replace H : (some (y319, false)) = some (r1, r2) := by first | (rw [Pm]; with_reducible exact H) | (have rZ := (Option.bind_some _ _).symm.trans H; rw [Pm]; with_reducible exact rZ) | (have rZ := (Option.bind_some _ _).symm.trans H; with_reducible exact rZ) | with_reducible exact H | (rw [Pm]; exact H) | exact H
         have Ny319 := am Pm
         clear Pm
         simp only [Option.some.injEq, Prod.mk.injEq] at H
         obtain ⟨rfl, rfl⟩ := H
         obtain ⟨Ao20, Pn, SL⟩ := Kd.iK fV.out
         subst SL
         have SI : 0 ≤ (x9 : Int) := of_decide_eq_true kJ
         have SK : x9 < (rP.length : Int) := of_decide_eq_true kJ
         obtain ⟨ad311, e311, hx311_0⟩ := Kd.xI (Kd.eG fV.out).2.2 x9 SI SK
         cases e311
         replace SI := eq_true SI
         replace SK := eq_true SK
         go_wp2_with (first | ((with_reducible refine aW (f := 51) rfl ?_); refine dU (some 32) rfl rfl Tryz.func51 dw rfl #[.string (iE ByteArray.empty rP x9)] rfl lV ?_; (with_reducible refine (aJ.calls k2 (iE ByteArray.empty rP x9) AA BL false _ ?side1 ?side2 ?side3 A12.out).mono ?_); (case side1 => exact cZ.below xu.out uA); (case side2 => exact cZ.below xw.out uA); (case side3 => exact cZ.below ve.out uA); rintro e w21 ⟨rfl, hb⟩; refine ⟨_, rfl, ?_⟩; replace iV := am (Kd.bQ (zR iV.out) hb); replace fV := am (Kd.bQ (zR fV.out) hb); replace HB := am (bK uA hb); (try clear hb)) | ((with_reducible refine jF (N := 7) rfl ?_); (try (refine vV (by rfl) ?_; dsimp only)); refine uk ?hg (N := 7) ?hd (cs := #[.string (⟨#[]⟩ : ByteArray), .string (⟨#[]⟩ : ByteArray)]) (t := 67) ?hr ?_; (case hd => rfl); (case hg => rfl); (case hr => exact oI); intro lL hg w22 hbox hb; replace iV := am (Kd.bQ (Kd.Pj (zR iV.out) lL (Nat.le_of_eq hg.symm)) hb); replace fV := am (Kd.bQ (zR fV.out) hb); have wQ := am hbox; have GW315 := am ((by rw [hg]; exact (eP uA) : w.heap.size ≤ lL)); have GE315 := am ((by rw [hg]; exact (eP uA) : w.heap.size ≤ lL)); replace HB := am (bK uA hb); clear hb hbox hg; have UG : w22.cell? ⟨lL, 0, none⟩ = some (.string (⟨#[]⟩ : ByteArray)) := bc wQ.out 0; have UH : w22.cell? ⟨lL, 1, none⟩ = some (.string (⟨#[]⟩ : ByteArray)) := bc wQ.out 1; have UI := aX wQ.out 0; have UJ := aX wQ.out 1) | ((with_reducible refine jF (N := 37) rfl ?_); (try (refine vV (by rfl) ?_; dsimp only)); refine Kd.su GX _ 67 ?hg (N := 37) ?hd (xs := ([] : List (iR))) (inner := []) (ok := fun _ => True) (okp := fun _ => True) ?hr ?hp (fun _ hk => hk) trivial (Below.refl _ _) (Nat.le_refl _) gB ?_; (case hd => rfl); (case hg => rfl); (case hr => exact oI); (case hp => exact (oJ.none _ _)); intro v320 w24 WU hb xH jf; clear xH jf; (first | rw [← Ny319.out] at WU | (simp only [Int.reduceToNat] at WU; rw [← Ny319.out] at WU)); replace fV := am (Kd.bQ (zR (Kd.gG (Kd.gV (p := ⟨lL, 1, none⟩) (Kd.gV (p := ⟨lL, 0, none⟩) (Kd.iQ fV.out wQ.out dY) (fun _ hk => hk.2) (.string AA)) (fun _ hk => hk.2) (.string BL)) (fun _ h_ => h_.1))) hb); have HO321 := am (Kd.iT (Kd.R_newB (Kd.vC WU (Kd.Bv (zR (Kd.gG (Kd.gV (p := ⟨lL, 1, none⟩) (Kd.gV (p := ⟨lL, 0, none⟩) (Kd.gG iV.out (fun k_ hk => (⟨hk, hk.2⟩ : _ ∧ k_ ≠ lL))) (fun _ hk => hk.2) (.string AA)) (fun _ hk => hk.2) (.string BL)) (fun _ h_ => h_.1))))) (g := lL) (o := .cells #[.string AA, .string BL] 67 (0, 0)) zb18) (eP WT)); replace iV := am (Kd.oO (zR (Kd.gG (Kd.gV (p := ⟨lL, 1, none⟩) (Kd.gV (p := ⟨lL, 0, none⟩) (Kd.gG iV.out (fun k_ hk => (⟨hk, hk.2⟩ : _ ∧ k_ ≠ lL))) (fun _ hk => hk.2) (.string AA)) (fun _ hk => hk.2) (.string BL)) (fun _ h_ => h_.1))) (Kd.vF WU) hb); replace wQ := am (dI (g := lL) (o := .cells #[.string AA, .string BL] 67 (0, 0)) zb18 hb); replace HB := am (bK WT hb); clear hb WU))
         go_ret2
         exact ⟨_, pY, (zR (Kd.gG HO321.out (fun _ hk => trivial))), WT⟩
       ·rw [if_neg c11] at H
        exact absurd H gB
      ·rw [if_neg c10] at H
       have KD : decide (x9 < (rP.length : Int)) = false := decide_eq_false c10
       clear c10
       simp only [Option.some.injEq, Prod.mk.injEq] at H
       obtain ⟨rfl, rfl⟩ := H
       obtain ⟨Ao26, co26, eo26⟩ := Kd.iK fV.out
       subst eo26
       go_wp2
       go_ret2
       exact ⟨_, pY, (zR iV.out), uA⟩
set_option maxHeartbeats 8000000 in
set_option maxRecDepth 100000 in
theorem bY.calls (k : Nat) (g : Nat) (ax : List Int) (gX : Int) (gu : Int) (r1 : ByteArray) (r2 : Int) (r3 : Int) (w0 w : World) (hI : aG w0 w g ax gX gu) (hB : Below w0.heap.size w0 w) (hGE : cZ ji w0) (hGM : cZ jU w0) (hGT : cZ jb w0) (h : bY.f k ax gX gu = some (r1, r2, r3)) :
  Calls Tryz.prog 52 #[.pointer (some ⟨g, 0, none⟩)] w fun e w' => e = .returned (.string r1) ∧ aG w0 w' g ax r2 r3 ∧ Below w0.heap.size w0 w' ∧ aQ w w' g none := by
 have HI0 := am hI
 have HK := am (aQ.refl w g none)
 have HL := am hB.size
 clear hI
 have HW0 := am hB.size
 have HB := am hB
 clear hB
 have xu := am hGE
 clear hGE
 have xw := am hGM
 clear hGM
 have ve := am hGT
 clear hGT
 have H : ((aV.f k ax gX gu).bind fun sV => ((au.f k sV.1 sV.2.1 sV.2.2.1 sV.2.2.2.1).bind fun Eh => (if Eh.toList = ([] : List UInt8) then (some ((⟨#[49, 46, 48, 46, 48]⟩ : ByteArray), sV.2.2.2.2.1, sV.2.2.2.2.2)) else (some (Eh, sV.2.2.2.2.1, sV.2.2.2.2.2))))) = some (r1, r2, r3) := h
 clear h
 replace H := Option.bind_eq_some_iff.mp H
 obtain ⟨⟨WV, WW, WX, WY, t426, t427⟩, zU, H⟩ := H
 try dsimp only at H
 have A2 := am zU
 clear zU
 replace H := Option.bind_eq_some_iff.mp H
 obtain ⟨Eh, yl, H⟩ := H
 try dsimp only at H
 have A3 := am yl
 clear yl
 by_cases c4 : Eh.toList = ([] : List UInt8)
 ·rw [if_pos c4] at H
  have DY : (Eh.toList == ([] : List UInt8)) = true := beq_iff_eq.mpr c4
  have c4b1 : (Eh.toList != ([] : List UInt8)) = false := bne_eq_false_iff_eq.mpr c4
  clear c4
  simp only [Option.some.injEq, Prod.mk.injEq] at H
  obtain ⟨rfl, rfl, rfl⟩ := H
  go_enter Tryz.func52, Tryz.ntmps52
  go_wp2_with (first | ((with_reducible refine aW (f := 103) rfl ?_); refine dU (some 5) rfl rfl Tryz.func103 dw rfl #[.pointer (some ⟨g, 0, none⟩)] rfl lV ?_; (with_reducible refine (aV.calls k g ax gX gu WV WW WX WY t426 t427 w0 _ ?side1 ?side2 A2.out).mono ?_); (case side1 => exact lW); (case side2 => exact lY); rintro e w5 ⟨v424, rfl, ho0, hi, hb, hk⟩; refine ⟨_, rfl, ?_⟩; have Ba := am (Kd.iT ho0 (gz (w := w) (g := g) (row := none) lX)); replace HK := am (aQ.trans lX hk (.inl rfl)); replace HB := am hb; replace HI0 := am hi; (try clear hb); (try clear ho0); obtain ⟨Ao6, co6, eo6⟩ := Kd.iK Ba.out; subst eo6) | ((with_reducible refine aW (f := 102) rfl ?_); refine dU (some 6) rfl rfl Tryz.func102 dw rfl #[.agg #[.int .i64 WV, .int .i64 WW, .int .i64 WX, .slice Ao6 WY.length co6]] rfl lV ?_; (with_reducible refine (au.calls k WV WW WX _ _ WY Eh _ ?side1 ?side2 ?side3 ?side4 ?side5 A3.out).mono ?_); (case side1 => exact zb43); (case side2 => exact (Kd.eG Ba.out).2.1); (case side3 => exact cZ.below xu.out lY); (case side4 => exact cZ.below xw.out lY); (case side5 => exact cZ.below ve.out lY); rintro e w7 ⟨rfl, hb⟩; refine ⟨_, rfl, ?_⟩; replace Ba := am (Kd.bQ (zR Ba.out) hb); replace HK := am (kb lX hb); replace HB := am (bK lY hb); replace HI0 := am (aG.below lW hb); (try clear hb)))
  go_ret
  exact ⟨pY, lW, lY, lX⟩
 ·rw [if_neg c4] at H
  have DY : (Eh.toList == ([] : List UInt8)) = false := beq_eq_false_iff_ne.mpr c4
  have c4b1 : (Eh.toList != ([] : List UInt8)) = true := bne_iff_ne.mpr c4
  simp only [Option.some.injEq, Prod.mk.injEq] at H
  obtain ⟨rfl, rfl, rfl⟩ := H
  go_enter Tryz.func52, Tryz.ntmps52
  go_wp2_with (first | ((with_reducible refine aW (f := 103) rfl ?_); refine dU (some 5) rfl rfl Tryz.func103 dw rfl #[.pointer (some ⟨g, 0, none⟩)] rfl lV ?_; (with_reducible refine (aV.calls k g ax gX gu WV WW WX WY t426 t427 w0 _ ?side1 ?side2 A2.out).mono ?_); (case side1 => exact lW); (case side2 => exact lY); rintro e w8 ⟨v424, rfl, ho0, hi, hb, hk⟩; refine ⟨_, rfl, ?_⟩; have Ba := am (Kd.iT ho0 (gz (w := w) (g := g) (row := none) lX)); replace HK := am (aQ.trans lX hk (.inl rfl)); replace HB := am hb; replace HI0 := am hi; (try clear hb); (try clear ho0); obtain ⟨Ao9, co9, eo9⟩ := Kd.iK Ba.out; subst eo9) | ((with_reducible refine aW (f := 102) rfl ?_); refine dU (some 6) rfl rfl Tryz.func102 dw rfl #[.agg #[.int .i64 WV, .int .i64 WW, .int .i64 WX, .slice Ao9 WY.length co9]] rfl lV ?_; (with_reducible refine (au.calls k WV WW WX _ _ WY Eh _ ?side1 ?side2 ?side3 ?side4 ?side5 A3.out).mono ?_); (case side1 => exact zb43); (case side2 => exact (Kd.eG Ba.out).2.1); (case side3 => exact cZ.below xu.out lY); (case side4 => exact cZ.below xw.out lY); (case side5 => exact cZ.below ve.out lY); rintro e w10 ⟨rfl, hb⟩; refine ⟨_, rfl, ?_⟩; replace Ba := am (Kd.bQ (zR Ba.out) hb); replace HK := am (kb lX hb); replace HB := am (bK lY hb); replace HI0 := am (aG.below lW hb); (try clear hb)))
  go_ret
  exact ⟨pY, lW, lY, lX⟩
set_option maxHeartbeats 8000000 in
set_option maxRecDepth 100000 in
theorem aN.calls (k : Nat) (g : Nat) (ax : List Int) (gX : Int) (gu : Int) (r1 : ByteArray) (r2 : Int) (r3 : Int) (w0 w : World) (hI : aG w0 w g ax gX gu) (hB : Below w0.heap.size w0 w) (hGE : cZ ji w0) (hGM : cZ jU w0) (hGT : cZ jb w0) (h : aN.f k ax gX gu = some (r1, r2, r3)) :
  Calls Tryz.prog 46 #[.pointer (some ⟨g, 0, none⟩)] w fun e w' => e = .returned (.string r1) ∧ aG w0 w' g ax r2 r3 ∧ Below w0.heap.size w0 w' ∧ aQ w w' g none := by
 have HI0 := am hI
 have HK := am (aQ.refl w g none)
 have HL := am hB.size
 clear hI
 have HW0 := am hB.size
 have HB := am hB
 clear hB
 have xu := am hGE
 clear hGE
 have xw := am hGM
 clear hGM
 have ve := am hGT
 clear hGT
 have H : ((az.f ax gX gu 3).bind fun IK => ((fQ.f ax IK.2.1 IK.2.2 16).bind fun zS => (if zS.1 = true then ((az.f ax zS.2.1 zS.2.2 2).bind fun IL => (aN.j0 k (⟨#[]⟩ : ByteArray) (wrap64 (8 + IL.1)) ax IL.2.1 IL.2.2)) else (aN.j0 k (⟨#[]⟩ : ByteArray) (wrap64 (1 + IK.1)) ax zS.2.1 zS.2.2)))) = some (r1, r2, r3) := h
 clear h
 replace H := Option.bind_eq_some_iff.mp H
 obtain ⟨⟨t429, t430, t431⟩, zU, H⟩ := H
 try dsimp only at H
 have A2 := am zU
 clear zU
 replace H := Option.bind_eq_some_iff.mp H
 obtain ⟨⟨t432, t433, t434⟩, yl, H⟩ := H
 try dsimp only at H
 have A3 := am yl
 clear yl
 have HC4 := am H
 clear H
 go_enter Tryz.func46, Tryz.ntmps46
 go_upto_if 10 with (first | ((with_reducible refine aW (f := 88) rfl ?_); refine dU (some 7) rfl rfl Tryz.func88 dw rfl #[.pointer (some ⟨g, 0, none⟩), .int .i64 3] rfl lV ?_; (with_reducible refine (az.calls g ax gX gu 3 t429 t430 t431 w0 _ ?side1 ?side2 A2.out).mono ?_); (case side1 => exact lW); (case side2 => exact lY); rintro e w5 ⟨rfl, hi, hb, hk⟩; refine ⟨_, rfl, ?_⟩; replace HK := am (aQ.trans lX hk (.inl rfl)); replace HB := am hb; replace HI0 := am hi; (try clear hb); (try clear hb2); (try clear hk); (try clear hi)) | ((with_reducible refine aW (f := 86) rfl ?_); refine dU (some 10) rfl rfl Tryz.func86 dw rfl #[.pointer (some ⟨g, 0, none⟩), .int .i64 16] rfl lV ?_; (with_reducible refine (fQ.calls g ax t430 t431 16 t432 t433 t434 w0 _ ?side1 ?side2 A3.out).mono ?_); (case side1 => exact lW); (case side2 => exact lY); rintro e w6 ⟨rfl, hi, hb, hk⟩; refine ⟨_, rfl, ?_⟩; replace HK := am (aQ.trans lX hk (.inl rfl)); replace HB := am hb; replace HI0 := am hi; (try clear hb); (try clear hb2); (try clear hk); (try clear hi)))
 (try simp only [Act.put, List.setIfInBounds_toArray, List.set_cons_zero, List.set_cons_succ])
 go_cut [4] (fun v4 wc => ∃ (kq : Nat) (wE : Int) (sO : Int) (sQ : Int), v4 = .int .i64 wE ∧ dC (aN.j0 kq (⟨#[]⟩ : ByteArray) wE ax sO sQ = some (r1, r2, r3)) ∧ dC (kq ≤ k) ∧ dC (aG w0 wc g ax sO sQ) ∧ dC (aQ w wc g none) ∧ dC (Below w0.heap.size w0 wc))
 case first =>
  have H := HC4.out
  clear HC4
  by_cases c7 : t432 = true
  ·subst c7
   rw [if_pos rfl] at H
   replace H := Option.bind_eq_some_iff.mp H
   obtain ⟨⟨t435, t436, t437⟩, A80, H⟩ := H
   try dsimp only at H
   have A8 := am A80
   clear A80
   have H' := am H
   clear H
   go_wp2_with (first | ((with_reducible refine aW (f := 88) rfl ?_); refine dU (some 12) rfl rfl Tryz.func88 dw rfl #[.pointer (some ⟨g, 0, none⟩), .int .i64 2] rfl lV ?_; (with_reducible refine (az.calls g ax t433 t434 2 t435 t436 t437 w0 _ ?side1 ?side2 A8.out).mono ?_); (case side1 => exact lW); (case side2 => exact lY); rintro e w9 ⟨rfl, hi, hb, hk⟩; refine ⟨_, rfl, ?_⟩; replace HK := am (aQ.trans lX hk (.inl rfl)); replace HB := am hb; replace HI0 := am hi; (try clear hb); (try clear hb2); (try clear hk); (try clear hi)))
   go_meet
   case rel => exact ⟨_, (wrap64 (8 + t435)), (t436), (t437), oH, H', ⟨MI⟩, ⟨lW⟩, ⟨lX⟩, ⟨lY⟩⟩
  ·replace c7 := Bool.eq_false_iff.mpr c7
   subst c7
   rw [if_neg (show ¬ (false = true) by decide)] at H
   have H' := am H
   clear H
   go_wp2
   go_meet
   case rel => exact ⟨_, (wrap64 (1 + t429)), (t433), (t434), oH, H', ⟨MI⟩, ⟨lW⟩, ⟨lX⟩, ⟨lY⟩⟩
 case rest =>
  clear HC4
  try clear p2
  try clear c4
  try clear p6
  try clear c7
  try clear c8
  obtain ⟨kq, wE, sO, sQ, rfl, HA, Po, HI0, HK, HB⟩ := hcut
  cases kq with
  | zero => exact absurd HA.out (by simp [aN.j0])
  | succ kj3 =>
   have H := HA.out
   clear HA
   simp only [aN.j0] at H
   have H' := am H
   clear H
   go_wp2
   go_loopg [3, 5] kj3 (fun kq v3 v5 w' => ∃ (Pq : ByteArray) (qQ : Int) (pI : Int) (pJ : Int), v3 = .string Pq ∧ v5 = .int .i64 qQ ∧ dC (aN.l0 kq Pq wE qQ ax pI pJ = some (r1, r2, r3)) ∧ dC (kq ≤ kj3) ∧ dC (aG w0 w' g ax pI pJ) ∧ dC (aQ w w' g none) ∧ dC (Below w0.heap.size w0 w'))
   case atStart => exact ⟨((⟨#[]⟩ : ByteArray)), (0), (sO), (sQ), oH, oH, H', ⟨Nat.le_refl _⟩, ⟨lW⟩, ⟨lX⟩, ⟨lY⟩⟩
   case round =>
    clear H'
    try clear p2
    try clear c4
    try clear p6
    try clear c7
    try clear c8
    try clear p2
    try clear p6
    obtain ⟨Pq, qQ, pI, pJ, rfl, rfl, HA, NQ, HI0, HK, HB⟩ := hrel
    cases gk with
    | zero => exact absurd HA.out (by simp [aN.l0])
    | succ k2 =>
     have H := HA.out
     clear HA
     simp only [aN.l0] at H
     by_cases c10 : qQ < wE
     ·rw [if_pos c10] at H
      have KD : decide (qQ < wE) = true := decide_eq_true c10
      clear c10
      have HC11 := am H
      clear H
      go_upto_if 20 with (fail)
      go_cut [3] (fun v3 wc => ∃ (kq : Nat) (lS : ByteArray), v3 = .string lS ∧ dC (aN.j2 kq lS wE qQ ax pI pJ = some (r1, r2, r3)) ∧ dC (kq ≤ k2) ∧ dC (aG w0 wc g ax pI pJ) ∧ dC (aQ w wc g none) ∧ dC (Below w0.heap.size w0 wc))
      case first =>
       have H := HC11.out
       clear HC11
       by_cases c12 : qQ > 0
       ·rw [if_pos c12] at H
        have Dj : decide (0 < qQ) = true := decide_eq_true c12
        clear c12
        (first | rw [Dj] | (simp only [jG, jL]; rw [Dj]) | skip)
        by_cases c13 : Pq.size + 4 ≤ 9223372036854775807
        ·rw [if_pos c13] at H
         have Xu := eq_true c13
         have Xv : decide (Pq.size + 4 ≤ 9223372036854775807) = true := decide_eq_true c13
         try have c13b2 : (9223372036854775807 < Pq.size + 4) = False := eq_false (Nat.not_lt.2 c13)
         obtain ⟨Bo, yj⟩ : ∃ j_ : ByteArray, (Pq ++ (⟨#[32, 124, 124, 32]⟩ : ByteArray)) = j_ := ⟨_, rfl⟩
         replace H : (aN.j2 k2 Bo wE qQ ax pI pJ) = some (r1, r2, r3) := by first | (rw [yj] at H; exact H) | (simp only [yj] at H ⊢; exact H)
         have H' := am H
         clear H
         go_wp2
         go_meet
         case rel => exact ⟨_, (Bo), (by first | rfl | (simp; done) | (simp only [← yj] <;> (first | rfl | simp)) | (simp [*]; done)), H', ⟨by have := Po.out; have := NQ.out; first | omega | exact Nat.le_refl _⟩, ⟨lW⟩, ⟨lX⟩, ⟨lY⟩⟩
        ·rw [if_neg c13] at H
         exact absurd H gB
       ·rw [if_neg c12] at H
        have Dj : decide (0 < qQ) = false := decide_eq_false c12
        clear c12
        (first | rw [Dj] | (simp only [jG, jL]; rw [Dj]) | skip)
        have H' := am H
        clear H
        go_wp2
        go_meet
        case rel => exact ⟨_, (Pq), oH, H', ⟨by have := Po.out; have := NQ.out; first | omega | exact Nat.le_refl _⟩, ⟨lW⟩, ⟨lX⟩, ⟨lY⟩⟩
      case rest =>
       clear HC11
       try clear c1
       try clear p2
       try clear c4
       try clear p6
       try clear c7
       try clear c8
       try clear c10
       try clear KD
       try clear c12
       try clear Dj
       try clear c13
       try clear Xu
       try clear Xv
       try clear c13b2
       try clear p2
       try clear p6
       obtain ⟨kq, lS, rfl, HA, EM, HI0, HK, HB⟩ := hcut
       cases kq with
       | zero => exact absurd HA.out (by simp [aN.j2])
       | succ pV =>
        have H := HA.out
        clear HA
        simp only [aN.j2] at H
        replace H := Option.bind_eq_some_iff.mp H
        obtain ⟨⟨oM, wF, wG⟩, YK, H⟩ := H
        try dsimp only at H
        have Gi := am YK
        clear YK
        by_cases c16 : oM = 0
        ·rw [if_pos c16] at H
         have UW : (oM == 0) = true := beq_iff_eq.mpr c16
         have c16b1 : (oM != 0) = false := bne_eq_false_iff_eq.mpr c16
         clear c16
         by_cases c17 : lS.size + 1 ≤ 9223372036854775807
         ·rw [if_pos c17] at H
          have c17b0 := eq_true c17
          have c17b1 : decide (lS.size + 1 ≤ 9223372036854775807) = true := decide_eq_true c17
          try have c17b2 : (9223372036854775807 < lS.size + 1) = False := eq_false (Nat.not_lt.2 c17)
          obtain ⟨js18, Uo⟩ : ∃ j_ : ByteArray, (lS ++ (⟨#[42]⟩ : ByteArray)) = j_ := ⟨_, rfl⟩
          replace H : (aN.l0 pV js18 wE (wrap64 (qQ + 1)) ax wF wG) = some (r1, r2, r3) := by first | (rw [Uo] at H; exact H) | (simp only [Uo] at H ⊢; exact H)
          (try rw [Uo] at Gi)
          have H' := am H
          clear H
          go_wp2_with (first | ((with_reducible refine aW (f := 88) rfl ?_); refine dU (some 24) rfl rfl Tryz.func88 dw rfl #[.pointer (some ⟨g, 0, none⟩), .int .i64 8] rfl lV ?_; (with_reducible refine (az.calls g ax pI pJ 8 oM wF wG w0 _ ?side1 ?side2 Gi.out).mono ?_); (case side1 => exact lW); (case side2 => exact lY); rintro e w19 ⟨rfl, hi, hb, hk⟩; refine ⟨_, rfl, ?_⟩; replace HK := am (aQ.trans lX hk (.inl rfl)); replace HB := am hb; replace HI0 := am hi; (try clear hb); (try clear hb2); (try clear hk); (try clear hi)))
          go_roundg pV
          case measure => have := Po.out; have := NQ.out; have := EM.out; omega
          case rel => exact ⟨(js18), (wrap64 (qQ + 1)), (wF), (wG), (by first | rfl | (simp; done) | (simp only [← Uo] <;> (first | rfl | simp)) | (simp [*]; done)), oH, H', ⟨by have := Po.out; have := NQ.out; have := EM.out; omega⟩, ⟨lW⟩, ⟨lX⟩, ⟨lY⟩⟩
         ·rw [if_neg c17] at H
          exact absurd H gB
        ·rw [if_neg c16] at H
         have UW : (oM == 0) = false := beq_eq_false_iff_ne.mpr c16
         have c16b1 : (oM != 0) = true := bne_iff_ne.mpr c16
         by_cases c20 : oM = 1
         ·rw [if_pos c20] at H
          have c20b0 : (oM == 1) = true := beq_iff_eq.mpr c20
          have c20b1 : (oM != 1) = false := bne_eq_false_iff_eq.mpr c20
          clear c20
          by_cases c21 : lS.size + 1 ≤ 9223372036854775807
          ·rw [if_pos c21] at H
           have YL := eq_true c21
           have c21b1 : decide (lS.size + 1 ≤ 9223372036854775807) = true := decide_eq_true c21
           try have c21b2 : (9223372036854775807 < lS.size + 1) = False := eq_false (Nat.not_lt.2 c21)
           obtain ⟨O4, BU⟩ : ∃ j_ : ByteArray, (lS ++ (⟨#[94]⟩ : ByteArray)) = j_ := ⟨_, rfl⟩
           replace H : ((bY.f pV ax wF wG).bind fun DV => (if (O4).size + DV.1.size ≤ 9223372036854775807 then (aN.l0 pV ((O4) ++ DV.1) wE (wrap64 (qQ + 1)) ax DV.2.1 DV.2.2) else (none))) = some (r1, r2, r3) := by first | (rw [BU] at H; exact H) | (simp only [BU] at H ⊢; exact H)
           (try rw [BU] at Gi)
           replace H := Option.bind_eq_some_iff.mp H
           obtain ⟨⟨ZF, t442, t443⟩, A230, H⟩ := H
           try dsimp only at H
           have A23 := am A230
           clear A230
           by_cases c24 : (O4).size + ZF.size ≤ 9223372036854775807
           ·rw [if_pos c24] at H
            have c24b0 := eq_true c24
            have c24b1 : decide ((O4).size + ZF.size ≤ 9223372036854775807) = true := decide_eq_true c24
            try have c24b2 : (9223372036854775807 < (O4).size + ZF.size) = False := eq_false (Nat.not_lt.2 c24)
            obtain ⟨js25, Pv⟩ : ∃ j_ : ByteArray, ((O4) ++ ZF) = j_ := ⟨_, rfl⟩
            replace H : (aN.l0 pV js25 wE (wrap64 (qQ + 1)) ax t442 t443) = some (r1, r2, r3) := by first | (rw [Pv] at H; exact H) | (simp only [Pv] at H ⊢; exact H)
            (try rw [Pv] at Gi)
            (try rw [Pv] at A23)
            have H' := am H
            clear H
            go_wp2_with (first | ((with_reducible refine aW (f := 88) rfl ?_); refine dU (some 24) rfl rfl Tryz.func88 dw rfl #[.pointer (some ⟨g, 0, none⟩), .int .i64 8] rfl lV ?_; (with_reducible refine (az.calls g ax pI pJ 8 oM wF wG w0 _ ?side1 ?side2 Gi.out).mono ?_); (case side1 => exact lW); (case side2 => exact lY); rintro e w26 ⟨rfl, hi, hb, hk⟩; refine ⟨_, rfl, ?_⟩; replace HK := am (aQ.trans lX hk (.inl rfl)); replace HB := am hb; replace HI0 := am hi; (try clear hb); (try clear hb2); (try clear hk); (try clear hi)) | ((with_reducible refine aW (f := 52) rfl ?_); refine dU (some 38) rfl rfl Tryz.func52 dw rfl #[.pointer (some ⟨g, 0, none⟩)] rfl lV ?_; (with_reducible refine (bY.calls pV g ax wF wG ZF t442 t443 w0 _ ?side1 ?side2 ?side3 ?side4 ?side5 A23.out).mono ?_); (case side1 => exact lW); (case side2 => exact lY); (case side3 => exact xu.out); (case side4 => exact xw.out); (case side5 => exact ve.out); rintro e w27 ⟨rfl, hi, hb, hk⟩; refine ⟨_, rfl, ?_⟩; replace HK := am (aQ.trans lX hk (.inl rfl)); replace HB := am hb; replace HI0 := am hi; (try clear hb); (try clear hb2); (try clear hk); (try clear hi)))
            go_roundg pV
            case measure => have := Po.out; have := NQ.out; have := EM.out; omega
            case rel => exact ⟨(js25), (wrap64 (qQ + 1)), (t442), (t443), (by first | rfl | (simp; done) | (simp only [← Pv] <;> (first | rfl | simp)) | (simp [*]; done)), oH, H', ⟨by have := Po.out; have := NQ.out; have := EM.out; omega⟩, ⟨lW⟩, ⟨lX⟩, ⟨lY⟩⟩
           ·rw [if_neg c24] at H
            exact absurd H gB
          ·rw [if_neg c21] at H
           exact absurd H gB
         ·rw [if_neg c20] at H
          have c20b0 : (oM == 1) = false := beq_eq_false_iff_ne.mpr c20
          have c20b1 : (oM != 1) = true := bne_iff_ne.mpr c20
          by_cases c28 : oM = 2
          ·rw [if_pos c28] at H
           have c28b0 : (oM == 2) = true := beq_iff_eq.mpr c28
           have c28b1 : (oM != 2) = false := bne_eq_false_iff_eq.mpr c28
           clear c28
           by_cases c29 : lS.size + 1 ≤ 9223372036854775807
           ·rw [if_pos c29] at H
            have c29b0 := eq_true c29
            have c29b1 : decide (lS.size + 1 ≤ 9223372036854775807) = true := decide_eq_true c29
            try have c29b2 : (9223372036854775807 < lS.size + 1) = False := eq_false (Nat.not_lt.2 c29)
            obtain ⟨WZ, ZG⟩ : ∃ j_ : ByteArray, (lS ++ (⟨#[126]⟩ : ByteArray)) = j_ := ⟨_, rfl⟩
            replace H : ((bY.f pV ax wF wG).bind fun DW => (if (WZ).size + DW.1.size ≤ 9223372036854775807 then (aN.l0 pV ((WZ) ++ DW.1) wE (wrap64 (qQ + 1)) ax DW.2.1 DW.2.2) else (none))) = some (r1, r2, r3) := by first | (rw [ZG] at H; exact H) | (simp only [ZG] at H ⊢; exact H)
            (try rw [ZG] at Gi)
            replace H := Option.bind_eq_some_iff.mp H
            obtain ⟨⟨ZH, t445, t446⟩, ZI, H⟩ := H
            try dsimp only at H
            have A31 := am ZI
            clear ZI
            by_cases c32 : (WZ).size + ZH.size ≤ 9223372036854775807
            ·rw [if_pos c32] at H
             have c32b0 := eq_true c32
             have c32b1 : decide ((WZ).size + ZH.size ≤ 9223372036854775807) = true := decide_eq_true c32
             try have c32b2 : (9223372036854775807 < (WZ).size + ZH.size) = False := eq_false (Nat.not_lt.2 c32)
             obtain ⟨js33, Px⟩ : ∃ j_ : ByteArray, ((WZ) ++ ZH) = j_ := ⟨_, rfl⟩
             replace H : (aN.l0 pV js33 wE (wrap64 (qQ + 1)) ax t445 t446) = some (r1, r2, r3) := by first | (rw [Px] at H; exact H) | (simp only [Px] at H ⊢; exact H)
             (try rw [Px] at Gi)
             (try rw [Px] at A31)
             have H' := am H
             clear H
             go_wp2_with (first | ((with_reducible refine aW (f := 88) rfl ?_); refine dU (some 24) rfl rfl Tryz.func88 dw rfl #[.pointer (some ⟨g, 0, none⟩), .int .i64 8] rfl lV ?_; (with_reducible refine (az.calls g ax pI pJ 8 oM wF wG w0 _ ?side1 ?side2 Gi.out).mono ?_); (case side1 => exact lW); (case side2 => exact lY); rintro e w34 ⟨rfl, hi, hb, hk⟩; refine ⟨_, rfl, ?_⟩; replace HK := am (aQ.trans lX hk (.inl rfl)); replace HB := am hb; replace HI0 := am hi; (try clear hb); (try clear hb2); (try clear hk); (try clear hi)) | ((with_reducible refine aW (f := 52) rfl ?_); refine dU (some 45) rfl rfl Tryz.func52 dw rfl #[.pointer (some ⟨g, 0, none⟩)] rfl lV ?_; (with_reducible refine (bY.calls pV g ax wF wG ZH t445 t446 w0 _ ?side1 ?side2 ?side3 ?side4 ?side5 A31.out).mono ?_); (case side1 => exact lW); (case side2 => exact lY); (case side3 => exact xu.out); (case side4 => exact xw.out); (case side5 => exact ve.out); rintro e w35 ⟨rfl, hi, hb, hk⟩; refine ⟨_, rfl, ?_⟩; replace HK := am (aQ.trans lX hk (.inl rfl)); replace HB := am hb; replace HI0 := am hi; (try clear hb); (try clear hb2); (try clear hk); (try clear hi)))
             go_roundg pV
             case measure => have := Po.out; have := NQ.out; have := EM.out; omega
             case rel => exact ⟨(js33), (wrap64 (qQ + 1)), (t445), (t446), (by first | rfl | (simp; done) | (simp only [← Px] <;> (first | rfl | simp)) | (simp [*]; done)), oH, H', ⟨by have := Po.out; have := NQ.out; have := EM.out; omega⟩, ⟨lW⟩, ⟨lX⟩, ⟨lY⟩⟩
            ·rw [if_neg c32] at H
             exact absurd H gB
           ·rw [if_neg c29] at H
            exact absurd H gB
          ·rw [if_neg c28] at H
           have c28b0 : (oM == 2) = false := beq_eq_false_iff_ne.mpr c28
           have c28b1 : (oM != 2) = true := bne_iff_ne.mpr c28
           by_cases Vm : oM = 3
           ·rw [if_pos Vm] at H
            have c36b0 : (oM == 3) = true := beq_iff_eq.mpr Vm
            have c36b1 : (oM != 3) = false := bne_eq_false_iff_eq.mpr Vm
            clear Vm
            by_cases c37 : lS.size + 2 ≤ 9223372036854775807
            ·rw [if_pos c37] at H
             have c37b0 := eq_true c37
             have c37b1 : decide (lS.size + 2 ≤ 9223372036854775807) = true := decide_eq_true c37
             try have c37b2 : (9223372036854775807 < lS.size + 2) = False := eq_false (Nat.not_lt.2 c37)
             obtain ⟨W9, ZJ⟩ : ∃ j_ : ByteArray, (lS ++ (⟨#[62, 61]⟩ : ByteArray)) = j_ := ⟨_, rfl⟩
             replace H : ((bY.f pV ax wF wG).bind fun DX => (if (W9).size + DX.1.size ≤ 9223372036854775807 then (aN.l0 pV ((W9) ++ DX.1) wE (wrap64 (qQ + 1)) ax DX.2.1 DX.2.2) else (none))) = some (r1, r2, r3) := by first | (rw [ZJ] at H; exact H) | (simp only [ZJ] at H ⊢; exact H)
             (try rw [ZJ] at Gi)
             replace H := Option.bind_eq_some_iff.mp H
             obtain ⟨⟨ZK, t448, t449⟩, A390, H⟩ := H
             try dsimp only at H
             have A39 := am A390
             clear A390
             by_cases c40 : (W9).size + ZK.size ≤ 9223372036854775807
             ·rw [if_pos c40] at H
              have c40b0 := eq_true c40
              have c40b1 : decide ((W9).size + ZK.size ≤ 9223372036854775807) = true := decide_eq_true c40
              try have c40b2 : (9223372036854775807 < (W9).size + ZK.size) = False := eq_false (Nat.not_lt.2 c40)
              obtain ⟨MJ, yu⟩ : ∃ j_ : ByteArray, ((W9) ++ ZK) = j_ := ⟨_, rfl⟩
              replace H : (aN.l0 pV MJ wE (wrap64 (qQ + 1)) ax t448 t449) = some (r1, r2, r3) := by first | (rw [yu] at H; exact H) | (simp only [yu] at H ⊢; exact H)
              (try rw [yu] at Gi)
              (try rw [yu] at A39)
              have H' := am H
              clear H
              go_wp2_with (first | ((with_reducible refine aW (f := 88) rfl ?_); refine dU (some 24) rfl rfl Tryz.func88 dw rfl #[.pointer (some ⟨g, 0, none⟩), .int .i64 8] rfl lV ?_; (with_reducible refine (az.calls g ax pI pJ 8 oM wF wG w0 _ ?side1 ?side2 Gi.out).mono ?_); (case side1 => exact lW); (case side2 => exact lY); rintro e w42 ⟨rfl, hi, hb, hk⟩; refine ⟨_, rfl, ?_⟩; replace HK := am (aQ.trans lX hk (.inl rfl)); replace HB := am hb; replace HI0 := am hi; (try clear hb); (try clear hb2); (try clear hk); (try clear hi)) | ((with_reducible refine aW (f := 52) rfl ?_); refine dU (some 52) rfl rfl Tryz.func52 dw rfl #[.pointer (some ⟨g, 0, none⟩)] rfl lV ?_; (with_reducible refine (bY.calls pV g ax wF wG ZK t448 t449 w0 _ ?side1 ?side2 ?side3 ?side4 ?side5 A39.out).mono ?_); (case side1 => exact lW); (case side2 => exact lY); (case side3 => exact xu.out); (case side4 => exact xw.out); (case side5 => exact ve.out); rintro e w43 ⟨rfl, hi, hb, hk⟩; refine ⟨_, rfl, ?_⟩; replace HK := am (aQ.trans lX hk (.inl rfl)); replace HB := am hb; replace HI0 := am hi; (try clear hb); (try clear hb2); (try clear hk); (try clear hi)))
              go_roundg pV
              case measure => have := Po.out; have := NQ.out; have := EM.out; omega
              case rel => exact ⟨(MJ), (wrap64 (qQ + 1)), (t448), (t449), (by first | rfl | (simp; done) | (simp only [← yu] <;> (first | rfl | simp)) | (simp [*]; done)), oH, H', ⟨by have := Po.out; have := NQ.out; have := EM.out; omega⟩, ⟨lW⟩, ⟨lX⟩, ⟨lY⟩⟩
             ·rw [if_neg c40] at H
              exact absurd H gB
            ·rw [if_neg c37] at H
             exact absurd H gB
           ·rw [if_neg Vm] at H
            have c36b0 : (oM == 3) = false := beq_eq_false_iff_ne.mpr Vm
            have c36b1 : (oM != 3) = true := bne_iff_ne.mpr Vm
            by_cases c44 : oM = 4
            ·rw [if_pos c44] at H
             have c44b0 : (oM == 4) = true := beq_iff_eq.mpr c44
             have c44b1 : (oM != 4) = false := bne_eq_false_iff_eq.mpr c44
             clear c44
             by_cases c45 : lS.size + 2 ≤ 9223372036854775807
             ·rw [if_pos c45] at H
              have c45b0 := eq_true c45
              have c45b1 : decide (lS.size + 2 ≤ 9223372036854775807) = true := decide_eq_true c45
              try have c45b2 : (9223372036854775807 < lS.size + 2) = False := eq_false (Nat.not_lt.2 c45)
              obtain ⟨Py, ZL⟩ : ∃ j_ : ByteArray, (lS ++ (⟨#[62, 61]⟩ : ByteArray)) = j_ := ⟨_, rfl⟩
              replace H : ((bY.f pV ax wF wG).bind fun xB => (if (Py).size + xB.1.size ≤ 9223372036854775807 then (if ((Py) ++ xB.1).size + 2 ≤ 9223372036854775807 then ((bY.f pV ax xB.2.1 xB.2.2).bind fun qp => (if (((Py) ++ xB.1) ++ (⟨#[32, 60]⟩ : ByteArray)).size + qp.1.size ≤ 9223372036854775807 then (aN.l0 pV ((((Py) ++ xB.1) ++ (⟨#[32, 60]⟩ : ByteArray)) ++ qp.1) wE (wrap64 (qQ + 1)) ax qp.2.1 qp.2.2) else (none))) else (none)) else (none))) = some (r1, r2, r3) := by first | (rw [ZL] at H; exact H) | (simp only [ZL] at H ⊢; exact H)
              (try rw [ZL] at Gi)
              replace H := Option.bind_eq_some_iff.mp H
              obtain ⟨⟨ZM, t451, t452⟩, A470, H⟩ := H
              try dsimp only at H
              have A47 := am A470
              clear A470
              by_cases c48 : (Py).size + ZM.size ≤ 9223372036854775807
              ·rw [if_pos c48] at H
               have c48b0 := eq_true c48
               have c48b1 : decide ((Py).size + ZM.size ≤ 9223372036854775807) = true := decide_eq_true c48
               try have c48b2 : (9223372036854775807 < (Py).size + ZM.size) = False := eq_false (Nat.not_lt.2 c48)
               obtain ⟨SN, Ur⟩ : ∃ j_ : ByteArray, ((Py) ++ ZM) = j_ := ⟨_, rfl⟩
               replace H : (if (SN).size + 2 ≤ 9223372036854775807 then ((bY.f pV ax t451 t452).bind fun qp => (if ((SN) ++ (⟨#[32, 60]⟩ : ByteArray)).size + qp.1.size ≤ 9223372036854775807 then (aN.l0 pV (((SN) ++ (⟨#[32, 60]⟩ : ByteArray)) ++ qp.1) wE (wrap64 (qQ + 1)) ax qp.2.1 qp.2.2) else (none))) else (none)) = some (r1, r2, r3) := by first | (rw [Ur] at H; exact H) | (simp only [Ur] at H ⊢; exact H)
               (try rw [Ur] at Gi)
               (try rw [Ur] at A47)
               by_cases c50 : (SN).size + 2 ≤ 9223372036854775807
               ·rw [if_pos c50] at H
                have c50b0 := eq_true c50
                have c50b1 : decide ((SN).size + 2 ≤ 9223372036854775807) = true := decide_eq_true c50
                try have c50b2 : (9223372036854775807 < (SN).size + 2) = False := eq_false (Nat.not_lt.2 c50)
                obtain ⟨Wh, Us⟩ : ∃ j_ : ByteArray, ((SN) ++ (⟨#[32, 60]⟩ : ByteArray)) = j_ := ⟨_, rfl⟩
                replace H : ((bY.f pV ax t451 t452).bind fun qp => (if (Wh).size + qp.1.size ≤ 9223372036854775807 then (aN.l0 pV ((Wh) ++ qp.1) wE (wrap64 (qQ + 1)) ax qp.2.1 qp.2.2) else (none))) = some (r1, r2, r3) := by first | (rw [Us] at H; exact H) | (simp only [Us] at H ⊢; exact H)
                (try rw [Us] at Gi)
                (try rw [Us] at A47)
                replace H := Option.bind_eq_some_iff.mp H
                obtain ⟨⟨ZN, t454, t455⟩, A520, H⟩ := H
                try dsimp only at H
                have A52 := am A520
                clear A520
                by_cases c53 : (Wh).size + ZN.size ≤ 9223372036854775807
                ·rw [if_pos c53] at H
                 have c53b0 := eq_true c53
                 have c53b1 : decide ((Wh).size + ZN.size ≤ 9223372036854775807) = true := decide_eq_true c53
                 try have c53b2 : (9223372036854775807 < (Wh).size + ZN.size) = False := eq_false (Nat.not_lt.2 c53)
                 obtain ⟨js54, LV⟩ : ∃ j_ : ByteArray, ((Wh) ++ ZN) = j_ := ⟨_, rfl⟩
                 replace H : (aN.l0 pV js54 wE (wrap64 (qQ + 1)) ax t454 t455) = some (r1, r2, r3) := by first | (rw [LV] at H; exact H) | (simp only [LV] at H ⊢; exact H)
                 (try rw [LV] at Gi)
                 (try rw [LV] at A47)
                 (try rw [LV] at A52)
                 have H' := am H
                 clear H
                 go_wp2_with (first | ((with_reducible refine aW (f := 88) rfl ?_); refine dU (some 24) rfl rfl Tryz.func88 dw rfl #[.pointer (some ⟨g, 0, none⟩), .int .i64 8] rfl lV ?_; (with_reducible refine (az.calls g ax pI pJ 8 oM wF wG w0 _ ?side1 ?side2 Gi.out).mono ?_); (case side1 => exact lW); (case side2 => exact lY); rintro e w55 ⟨rfl, hi, hb, hk⟩; refine ⟨_, rfl, ?_⟩; replace HK := am (aQ.trans lX hk (.inl rfl)); replace HB := am hb; replace HI0 := am hi; (try clear hb); (try clear hb2); (try clear hk); (try clear hi)) | ((with_reducible refine aW (f := 52) rfl ?_); refine dU (some 59) rfl rfl Tryz.func52 dw rfl #[.pointer (some ⟨g, 0, none⟩)] rfl lV ?_; (with_reducible refine (bY.calls pV g ax wF wG ZM t451 t452 w0 _ ?side1 ?side2 ?side3 ?side4 ?side5 A47.out).mono ?_); (case side1 => exact lW); (case side2 => exact lY); (case side3 => exact xu.out); (case side4 => exact xw.out); (case side5 => exact ve.out); rintro e w56 ⟨rfl, hi, hb, hk⟩; refine ⟨_, rfl, ?_⟩; replace HK := am (aQ.trans lX hk (.inl rfl)); replace HB := am hb; replace HI0 := am hi; (try clear hb); (try clear hb2); (try clear hk); (try clear hi)) | ((with_reducible refine aW (f := 52) rfl ?_); refine dU (some 63) rfl rfl Tryz.func52 dw rfl #[.pointer (some ⟨g, 0, none⟩)] rfl lV ?_; (with_reducible refine (bY.calls pV g ax t451 t452 ZN t454 t455 w0 _ ?side1 ?side2 ?side3 ?side4 ?side5 A52.out).mono ?_); (case side1 => exact lW); (case side2 => exact lY); (case side3 => exact xu.out); (case side4 => exact xw.out); (case side5 => exact ve.out); rintro e w57 ⟨rfl, hi, hb, hk⟩; refine ⟨_, rfl, ?_⟩; replace HK := am (aQ.trans lX hk (.inl rfl)); replace HB := am hb; replace HI0 := am hi; (try clear hb); (try clear hb2); (try clear hk); (try clear hi)))
                 go_roundg pV
                 case measure => have := Po.out; have := NQ.out; have := EM.out; omega
                 case rel => exact ⟨(js54), (wrap64 (qQ + 1)), (t454), (t455), (by first | rfl | (simp; done) | (simp only [← LV] <;> (first | rfl | simp)) | (simp [*]; done)), oH, H', ⟨by have := Po.out; have := NQ.out; have := EM.out; omega⟩, ⟨lW⟩, ⟨lX⟩, ⟨lY⟩⟩
                ·rw [if_neg c53] at H
                 exact absurd H gB
               ·rw [if_neg c50] at H
                exact absurd H gB
              ·rw [if_neg c48] at H
               exact absurd H gB
             ·rw [if_neg c45] at H
              exact absurd H gB
            ·rw [if_neg c44] at H
             have c44b0 : (oM == 4) = false := beq_eq_false_iff_ne.mpr c44
             have c44b1 : (oM != 4) = true := bne_iff_ne.mpr c44
             by_cases c58 : oM = 5
             ·rw [if_pos c58] at H
              have c58b0 : (oM == 5) = true := beq_iff_eq.mpr c58
              have c58b1 : (oM != 5) = false := bne_eq_false_iff_eq.mpr c58
              clear c58
              obtain ⟨y456, Ut⟩ : ∃ y_ : List ByteArray, y_ = (([(⟨#[49]⟩ : ByteArray), (⟨#[49, 46, 50]⟩ : ByteArray), (⟨#[48]⟩ : ByteArray), (⟨#[48, 46, 48]⟩ : ByteArray), (⟨#[60, 50, 46, 48, 46, 48]⟩ : ByteArray), (⟨#[48, 49]⟩ : ByteArray), (⟨#[49, 46]⟩ : ByteArray), (⟨#[57, 57, 57, 57, 57, 57, 57, 57, 57]⟩ : ByteArray), (⟨#[94, 57, 57, 57, 57, 57, 57, 57, 57, 57, 46, 48, 46, 48]⟩ : ByteArray)] : List ByteArray)) := ⟨_, rfl⟩
              first | replace H := hb1 H (show (cO.f ax wF wG y456) = _ from (by rw [Ut])) | replace H := hb1 (hb2 H) (show (cO.f ax wF wG y456) = _ from (by rw [Ut]))
              have Ny456 := am Ut
              clear Ut
              replace H := Option.bind_eq_some_iff.mp H
              obtain ⟨⟨ZO, t460, t461⟩, A590, H⟩ := H
              try dsimp only at H
              have A59 := am A590
              clear A590
              by_cases c60 : lS.size + ZO.size ≤ 9223372036854775807
              ·rw [if_pos c60] at H
               have c60b0 := eq_true c60
               have c60b1 : decide (lS.size + ZO.size ≤ 9223372036854775807) = true := decide_eq_true c60
               try have c60b2 : (9223372036854775807 < lS.size + ZO.size) = False := eq_false (Nat.not_lt.2 c60)
               obtain ⟨js61, Pz⟩ : ∃ j_ : ByteArray, (lS ++ ZO) = j_ := ⟨_, rfl⟩
               replace H : (aN.l0 pV js61 wE (wrap64 (qQ + 1)) ax t460 t461) = some (r1, r2, r3) := by first | (rw [Pz] at H; exact H) | (simp only [Pz] at H ⊢; exact H)
               (try rw [Pz] at Gi)
               (try rw [Pz] at A59)
               have H' := am H
               clear H
               go_wp2_with (first | ((with_reducible refine aW (f := 88) rfl ?_); refine dU (some 24) rfl rfl Tryz.func88 dw rfl #[.pointer (some ⟨g, 0, none⟩), .int .i64 8] rfl lV ?_; (with_reducible refine (az.calls g ax pI pJ 8 oM wF wG w0 _ ?side1 ?side2 Gi.out).mono ?_); (case side1 => exact lW); (case side2 => exact lY); rintro e w62 ⟨rfl, hi, hb, hk⟩; refine ⟨_, rfl, ?_⟩; replace HK := am (aQ.trans lX hk (.inl rfl)); replace HB := am hb; replace HI0 := am hi; (try clear hb); (try clear hb2); (try clear hk); (try clear hi)) | ((with_reducible refine jF (N := 69) rfl ?_); refine Kd.su Kd.string _ 9 ?hg (N := 69) ?hd (xs := ([(⟨#[49]⟩ : ByteArray), (⟨#[49, 46, 50]⟩ : ByteArray), (⟨#[48]⟩ : ByteArray), (⟨#[48, 46, 48]⟩ : ByteArray), (⟨#[60, 50, 46, 48, 46, 48]⟩ : ByteArray), (⟨#[48, 49]⟩ : ByteArray), (⟨#[49, 46]⟩ : ByteArray), (⟨#[57, 57, 57, 57, 57, 57, 57, 57, 57]⟩ : ByteArray), (⟨#[94, 57, 57, 57, 57, 57, 57, 57, 57, 57, 46, 48, 46, 48]⟩ : ByteArray)] : List ByteArray)) (inner := [.string (⟨#[49]⟩ : ByteArray), .string (⟨#[49, 46, 50]⟩ : ByteArray), .string (⟨#[48]⟩ : ByteArray), .string (⟨#[48, 46, 48]⟩ : ByteArray), .string (⟨#[60, 50, 46, 48, 46, 48]⟩ : ByteArray), .string (⟨#[48, 49]⟩ : ByteArray), .string (⟨#[49, 46]⟩ : ByteArray), .string (⟨#[57, 57, 57, 57, 57, 57, 57, 57, 57]⟩ : ByteArray), .string (⟨#[94, 57, 57, 57, 57, 57, 57, 57, 57, 57, 46, 48, 46, 48]⟩ : ByteArray)]) (ok := fun _ => True) (okp := fun _ => True) ?hr ?hp (fun _ hk => hk) trivial (Below.refl _ _) (Nat.le_refl _) gB ?_; (case hd => rfl); (case hg => rfl); (case hr => exact oI); (case hp => exact G9); intro v457 w63 ZP hb xH jf; clear xH jf; (first | rw [← Ny456.out] at ZP | (simp only [Int.reduceToNat] at ZP; rw [← Ny456.out] at ZP)); have LW := am (Kd.iT ZP (gz (w := w) (g := g) (row := none) lX)); replace HK := am (kb lX hb); replace HB := am (bK lY hb); replace HI0 := am (aG.below lW hb); clear hb ZP; obtain ⟨Ao65, co65, eo65⟩ := Kd.iK LW.out; subst eo65) | ((with_reducible refine aW (f := 87) rfl ?_); refine dU (some 70) rfl rfl Tryz.func87 dw rfl #[.pointer (some ⟨g, 0, none⟩), .slice Ao65 y456.length co65] rfl lV ?_; (with_reducible refine (cO.calls g ax wF wG _ _ y456 ZO t460 t461 w0 _ ?side1 ?side2 ?side3 ?side4 ?side5 A59.out).mono ?_); (case side1 => exact lW); (case side2 => exact lY); (case side3 => repeat (first | exact (Kd.eG LW.out).2.2 | (with_reducible refine Kd.rC ?_ _) | (with_reducible refine Kd.rD ?_ _) | (with_reducible refine Kd.uz ?_))); (case side4 => exact (Kd.eG LW.out).2.1); (case side5 => exact lg (aG.own_ne HI0.out LW.out dY)); rintro e w66 ⟨rfl, hi, hb, hk⟩; refine ⟨_, rfl, ?_⟩; replace LW := am (kz (aG.apart (show aG w0 _ g ax wF wG from lW) (zR LW.out) dY) hk); replace HK := am (aQ.trans lX hk (.inl rfl)); replace HB := am hb; replace HI0 := am hi; (try clear hb); (try clear hb2); (try clear hk); (try clear hi)))
               go_roundg pV
               case measure => have := Po.out; have := NQ.out; have := EM.out; omega
               case rel => exact ⟨(js61), (wrap64 (qQ + 1)), (t460), (t461), (by first | rfl | (simp; done) | (simp only [← Pz] <;> (first | rfl | simp)) | (simp [*]; done)), oH, H', ⟨by have := Po.out; have := NQ.out; have := EM.out; omega⟩, ⟨lW⟩, ⟨lX⟩, ⟨lY⟩⟩
              ·rw [if_neg c60] at H
               exact absurd H gB
             ·rw [if_neg c58] at H
              have c58b0 : (oM == 5) = false := beq_eq_false_iff_ne.mpr c58
              have c58b1 : (oM != 5) = true := bne_iff_ne.mpr c58
              replace H := Option.bind_eq_some_iff.mp H
              obtain ⟨⟨ZQ, t463, t464⟩, A670, H⟩ := H
              try dsimp only at H
              have A67 := am A670
              clear A670
              by_cases c68 : lS.size + ZQ.size ≤ 9223372036854775807
              ·rw [if_pos c68] at H
               have c68b0 := eq_true c68
               have c68b1 : decide (lS.size + ZQ.size ≤ 9223372036854775807) = true := decide_eq_true c68
               try have c68b2 : (9223372036854775807 < lS.size + ZQ.size) = False := eq_false (Nat.not_lt.2 c68)
               obtain ⟨js69, QA⟩ : ∃ j_ : ByteArray, (lS ++ ZQ) = j_ := ⟨_, rfl⟩
               replace H : (aN.l0 pV js69 wE (wrap64 (qQ + 1)) ax t463 t464) = some (r1, r2, r3) := by first | (rw [QA] at H; exact H) | (simp only [QA] at H ⊢; exact H)
               (try rw [QA] at Gi)
               (try rw [QA] at A67)
               have H' := am H
               clear H
               go_wp2_with (first | ((with_reducible refine aW (f := 88) rfl ?_); refine dU (some 24) rfl rfl Tryz.func88 dw rfl #[.pointer (some ⟨g, 0, none⟩), .int .i64 8] rfl lV ?_; (with_reducible refine (az.calls g ax pI pJ 8 oM wF wG w0 _ ?side1 ?side2 Gi.out).mono ?_); (case side1 => exact lW); (case side2 => exact lY); rintro e w70 ⟨rfl, hi, hb, hk⟩; refine ⟨_, rfl, ?_⟩; replace HK := am (aQ.trans lX hk (.inl rfl)); replace HB := am hb; replace HI0 := am hi; (try clear hb); (try clear hb2); (try clear hk); (try clear hi)) | ((with_reducible refine aW (f := 52) rfl ?_); refine dU (some 27) rfl rfl Tryz.func52 dw rfl #[.pointer (some ⟨g, 0, none⟩)] rfl lV ?_; (with_reducible refine (bY.calls pV g ax wF wG ZQ t463 t464 w0 _ ?side1 ?side2 ?side3 ?side4 ?side5 A67.out).mono ?_); (case side1 => exact lW); (case side2 => exact lY); (case side3 => exact xu.out); (case side4 => exact xw.out); (case side5 => exact ve.out); rintro e w71 ⟨rfl, hi, hb, hk⟩; refine ⟨_, rfl, ?_⟩; replace HK := am (aQ.trans lX hk (.inl rfl)); replace HB := am hb; replace HI0 := am hi; (try clear hb); (try clear hb2); (try clear hk); (try clear hi)))
               go_roundg pV
               case measure => have := Po.out; have := NQ.out; have := EM.out; omega
               case rel => exact ⟨(js69), (wrap64 (qQ + 1)), (t463), (t464), (by first | rfl | (simp; done) | (simp only [← QA] <;> (first | rfl | simp)) | (simp [*]; done)), oH, H', ⟨by have := Po.out; have := NQ.out; have := EM.out; omega⟩, ⟨lW⟩, ⟨lX⟩, ⟨lY⟩⟩
              ·rw [if_neg c68] at H
               exact absurd H gB
     ·rw [if_neg c10] at H
      have KD : decide (qQ < wE) = false := decide_eq_false c10
      clear c10
      simp only [Option.some.injEq, Prod.mk.injEq] at H
      obtain ⟨rfl, rfl, rfl⟩ := H
      go_wp2
      go_ret
      exact ⟨pY, lW, lY, lX⟩
set_option maxHeartbeats 8000000 in
set_option maxRecDepth 100000 in
theorem bg.calls (k : Nat) (g : Nat) (ax : List Int) (gX : Int) (gu : Int) (r1 : List (iR)) (r2 : Int) (r3 : Int) (w0 w : World) (hI : aG w0 w g ax gX gu) (hB : Below w0.heap.size w0 w) (hGE : cZ ji w0) (hGM : cZ jU w0) (hGT : cZ jb w0) (h : bg.f k ax gX gu = some (r1, r2, r3)) :
  Calls Tryz.prog 42 #[.pointer (some ⟨g, 0, none⟩)] w fun e w' => ∃ KC : Value, e = .returned (KC) ∧ Kd.R GX 67 w' w.heap.size (fun _ => True) KC r1 ∧ aG w0 w' g ax r2 r3 ∧ Below w0.heap.size w0 w' ∧ aQ w w' g none := by
 have HI0 := am hI
 have HK := am (aQ.refl w g none)
 have HL := am hB.size
 clear hI
 have HW0 := am hB.size
 have HB := am hB
 clear hB
 have xu := am hGE
 clear hGE
 have xw := am hGM
 clear hGM
 have ve := am hGT
 clear hGT
 have H : ((aN.f k ax gX gu).bind fun zT => ((aH.f k zT.1).bind fun IP => (if (IP.1.length : Int) > 0 then ((fQ.f ax zT.2.1 zT.2.2 12).bind fun IQ => (bg.j0 k IP.1 IQ.1 ax IQ.2.1 IQ.2.2)) else (bg.j0 k IP.1 false ax zT.2.1 zT.2.2)))) = some (r1, r2, r3) := h
 clear h
 replace H := Option.bind_eq_some_iff.mp H
 obtain ⟨⟨t465, t466, t467⟩, zU, H⟩ := H
 try dsimp only at H
 have A2 := am zU
 clear zU
 replace H := Option.bind_eq_some_iff.mp H
 obtain ⟨⟨uH, t469⟩, yl, H⟩ := H
 try dsimp only at H
 have A3 := am yl
 clear yl
 have HC4 := am H
 clear H
 go_enter Tryz.func42, Tryz.ntmps42
 go_upto_region 2 with (first | ((with_reducible refine aW (f := 46) rfl ?_); refine dU (some 7) rfl rfl Tryz.func46 dw rfl #[.pointer (some ⟨g, 0, none⟩)] rfl lV ?_; (with_reducible refine (aN.calls k g ax gX gu t465 t466 t467 w0 _ ?side1 ?side2 ?side3 ?side4 ?side5 A2.out).mono ?_); (case side1 => exact lW); (case side2 => exact lY); (case side3 => exact xu.out); (case side4 => exact xw.out); (case side5 => exact ve.out); rintro e w5 ⟨rfl, hi, hb, hk⟩; refine ⟨_, rfl, ?_⟩; replace HK := am (aQ.trans lX hk (.inl rfl)); replace HB := am hb; replace HI0 := am hi; (try clear hb); (try clear hb2); (try clear hk); (try clear hi)) | ((with_reducible refine aW (f := 13) rfl ?_); refine dU (some 8) rfl rfl Tryz.func13 dw rfl #[.string t465] rfl lV ?_; (with_reducible refine (aH.calls k t465 uH t469 _ ?side1 ?side2 ?side3 A3.out).mono ?_); (case side1 => exact cZ.below xu.out lY); (case side2 => exact cZ.below xw.out lY); (case side3 => exact cZ.below ve.out lY); rintro e w6 ⟨v470, rfl, ho0, hb⟩; refine ⟨_, rfl, ?_⟩; have LX := am (Kd.iT ho0 (gz (w := w) (g := g) (row := none) lX)); replace HK := am (kb lX hb); replace HB := am (bK lY hb); replace HI0 := am (aG.below lW hb); (try clear hb); (try clear hb2); (try clear hk); (try clear hi); (try clear ho0)))
 (try simp only [Act.put, List.setIfInBounds_toArray, List.set_cons_zero, List.set_cons_succ])
 go_cut [17] (fun v17 wc => ∃ (kq : Nat) (Uu : Bool) (sO : Int) (sQ : Int), v17 = .bool Uu ∧ dC (bg.j0 kq uH Uu ax sO sQ = some (r1, r2, r3)) ∧ dC (kq ≤ k) ∧ dC (Kd.R GX 67 wc w.heap.size (fun _ => True) v470 uH) ∧ dC (aG w0 wc g ax sO sQ) ∧ dC (aQ w wc g none) ∧ dC (Below w0.heap.size w0 wc))
 case first =>
  have H := HC4.out
  clear HC4
  by_cases c7 : (uH.length : Int) > 0
  ·rw [if_pos c7] at H
   have zD : decide (0 < (uH.length : Int)) = true := decide_eq_true c7
   have OL : decide (0 < uH.length) = true := decide_eq_true mY
   clear c7
   (first | rw [zD] | (simp only [jG, jL]; rw [zD]) | skip)
   replace H := Option.bind_eq_some_iff.mp H
   obtain ⟨⟨t472, t473, t474⟩, A80, H⟩ := H
   try dsimp only at H
   have A8 := am A80
   clear A80
   have H' := am H
   clear H
   obtain ⟨Ao9, co9, eo9⟩ := Kd.iK LX.out
   subst eo9
   go_wp2_with (first | (go_at_call 86; (with_reducible refine (fQ.calls g ax t466 t467 12 t472 t473 t474 w0 _ ?side1 ?side2 A8.out).mono ?_); (case side1 => exact lW); (case side2 => exact lY); rintro e w10 ⟨rfl, hi, hb, hk⟩; replace LX := am (kz (aG.apart (show aG w0 _ g ax t466 t467 from lW) (zR LX.out) dY) hk); replace HK := am (aQ.trans lX hk (.inl rfl)); replace HB := am hb; replace HI0 := am hi; (try clear hb); (try clear hb2); (try clear hk); (try clear hi)))
   go_meet
   case rel => exact ⟨_, (t472), (t473), (t474), oH, H', ⟨MI⟩, ⟨(zR LX.out)⟩, ⟨lW⟩, ⟨lX⟩, ⟨lY⟩⟩
  ·rw [if_neg c7] at H
   have zD : decide (0 < (uH.length : Int)) = false := decide_eq_false c7
   have OL : decide (0 < uH.length) = false := decide_eq_false mY
   clear c7
   (first | rw [zD] | (simp only [jG, jL]; rw [zD]) | skip)
   have H' := am H
   clear H
   obtain ⟨Ao11, co11, eo11⟩ := Kd.iK LX.out
   subst eo11
   go_wp2
   go_meet
   case rel => exact ⟨_, (false), (t466), (t467), oH, H', ⟨MI⟩, ⟨(zR LX.out)⟩, ⟨lW⟩, ⟨lX⟩, ⟨lY⟩⟩
 case rest =>
  clear HC4
  try clear c1
  try clear p2
  try clear c4
  try clear c7
  try clear zD
  try clear OL
  obtain ⟨kq, Uu, sO, sQ, rfl, HA, Po, uB, HI0, HK, HB⟩ := hcut
  cases kq with
  | zero => exact absurd HA.out (by simp [bg.j0])
  | succ kj3 =>
   have H := HA.out
   clear HA
   simp only [bg.j0] at H
   by_cases c12 : Uu = true
   ·subst c12
    rw [if_pos rfl] at H
    replace H := Option.bind_eq_some_iff.mp H
    obtain ⟨⟨vW, Wi, Wj⟩, A130, H⟩ := H
    try dsimp only at H
    have A13 := am A130
    clear A130
    obtain ⟨y478, Uw⟩ : ∃ y_ : List ByteArray, y_ = (([(⟨#[120]⟩ : ByteArray), (⟨#[49]⟩ : ByteArray), (⟨#[]⟩ : ByteArray), (⟨#[49, 46, 48, 46, 48, 45]⟩ : ByteArray)] : List ByteArray)) := ⟨_, rfl⟩
    first | replace H := hb1 H (show (cO.f ax Wi Wj y478) = _ from (by rw [Uw])) | replace H := hb1 (hb2 H) (show (cO.f ax Wi Wj y478) = _ from (by rw [Uw]))
    have Ny478 := am Uw
    clear Uw
    replace H := Option.bind_eq_some_iff.mp H
    obtain ⟨⟨Wl, t482, t483⟩, A140, H⟩ := H
    try dsimp only at H
    have A14 := am A140
    clear A140
    by_cases c15 : 0 ≤ vW
    ·rw [if_pos c15] at H
     have c15b0 : decide (0 ≤ vW) = true := decide_eq_true c15
     clear c15
     by_cases c16 : vW < (uH.length : Int)
     ·rw [if_pos c16] at H
      have UW : decide (vW < (uH.length : Int)) = true := decide_eq_true c16
      clear c16
      obtain ⟨y484, QB⟩ : ∃ y_ : List (iR), y_ = (uH.set (vW : Int).toNat (⟨Wl, (dS uH vW).f1⟩ : iR)) := ⟨_, rfl⟩
      replace H : (some (y484, t482, t483)) = some (r1, r2, r3) := by first | (rw [QB]; with_reducible exact H) | (have rZ := (Option.bind_some _ _).symm.trans H; rw [QB]; with_reducible exact rZ) | (have rZ := (Option.bind_some _ _).symm.trans H; with_reducible exact rZ) | with_reducible exact H | (rw [QB]; exact H) | exact H
      have Ny484 := am QB
      clear QB
      simp only [Option.some.injEq, Prod.mk.injEq] at H
      obtain ⟨rfl, rfl, rfl⟩ := H
      obtain ⟨Ao18, Xx, eo18⟩ := Kd.iK uB.out
      subst eo18
      go_wp2_with (first | ((with_reducible refine aW (f := 88) rfl ?_); refine dU (some 22) rfl rfl Tryz.func88 dw rfl #[.pointer (some ⟨g, 0, none⟩), .int .i64 (uH.length : Int)] rfl lV ?_; (with_reducible refine (az.calls g ax sO sQ (uH.length : Int) vW Wi Wj w0 _ ?side1 ?side2 A13.out).mono ?_); (case side1 => exact lW); (case side2 => exact lY); rintro e w19 ⟨rfl, hi, hb, hk⟩; refine ⟨_, rfl, ?_⟩; replace uB := am (kz (aG.apart (show aG w0 _ g ax sO sQ from lW) (zR uB.out) dY) hk); replace HK := am (aQ.trans lX hk (.inl rfl)); replace HB := am hb; replace HI0 := am hi; (try clear hb); (try clear hb2); (try clear hk); (try clear hi)) | ((with_reducible refine jF (N := 24) rfl ?_); refine Kd.su Kd.string _ 9 ?hg (N := 24) ?hd (xs := ([(⟨#[120]⟩ : ByteArray), (⟨#[49]⟩ : ByteArray), (⟨#[]⟩ : ByteArray), (⟨#[49, 46, 48, 46, 48, 45]⟩ : ByteArray)] : List ByteArray)) (inner := [.string (⟨#[120]⟩ : ByteArray), .string (⟨#[49]⟩ : ByteArray), .string (⟨#[]⟩ : ByteArray), .string (⟨#[49, 46, 48, 46, 48, 45]⟩ : ByteArray)]) (ok := fun _ => True) (okp := fun _ => True) ?hr ?hp (fun _ hk => hk) trivial (Below.refl _ _) (Nat.le_refl _) gB ?_; (case hd => rfl); (case hg => rfl); (case hr => exact oI); (case hp => exact G9); intro v479 w20 ZR hb xH jf; clear xH jf; (first | rw [← Ny478.out] at ZR | (simp only [Int.reduceToNat] at ZR; rw [← Ny478.out] at ZR)); replace uB := am (Kd.bQ (zR uB.out) hb); have GK := am (Kd.iT ZR (gz (w := w) (g := g) (row := none) lX)); replace HK := am (kb lX hb); replace HB := am (bK lY hb); replace HI0 := am (aG.below lW hb); clear hb ZR; obtain ⟨Ao22, co22, eo22⟩ := Kd.iK GK.out; subst eo22) | ((with_reducible refine aW (f := 87) rfl ?_); refine dU (some 25) rfl rfl Tryz.func87 dw rfl #[.pointer (some ⟨g, 0, none⟩), .slice Ao22 y478.length co22] rfl lV ?_; (with_reducible refine (cO.calls g ax Wi Wj _ _ y478 Wl t482 t483 w0 _ ?side1 ?side2 ?side3 ?side4 ?side5 A14.out).mono ?_); (case side1 => exact lW); (case side2 => exact lY); (case side3 => repeat (first | exact (Kd.eG GK.out).2.2 | (with_reducible refine Kd.rC ?_ _) | (with_reducible refine Kd.rD ?_ _) | (with_reducible refine Kd.uz ?_))); (case side4 => exact (Kd.eG GK.out).2.1); (case side5 => exact lg (aG.own_ne HI0.out GK.out dY)); rintro e w23 ⟨rfl, hi, hb, hk⟩; refine ⟨_, rfl, ?_⟩; replace uB := am (kz (aG.apart (show aG w0 _ g ax Wi Wj from lW) (zR uB.out) dY) hk); replace GK := am (kz (aG.apart (show aG w0 _ g ax Wi Wj from lW) (zR GK.out) dY) hk); replace HK := am (aQ.trans lX hk (.inl rfl)); replace HB := am hb; replace HI0 := am hi; (try clear hb); (try clear hb2); (try clear hk); (try clear hi); have p17 : 0 ≤ (vW : Int) := of_decide_eq_true kJ; have q17 : (vW : Int) < ((uH.length : Int) : Int) := of_decide_eq_true kJ; obtain ⟨NR, co17, eo17, gb17, gl17, cl17, HG17⟩ := Kd.NK uB.out mY; (first | cases eo17 | (injection eo17 with Ux en_ ec_; (first | subst Ux | (injection Ux with Ux; subst Ux)); subst ec_; clear en_)); have GB17 := am gb17; have GG17 := am HG17; clear gb17 gl17 HG17; obtain ⟨ce17, hcl17, hM17, ZT, ZU⟩ := Kd.ZV uB.out z67 (vW : Int) p17 q17; obtain rfl := Jy hM17; have hx17_0 : w23.cell? ⟨NR, (vW : Int).toNat * 2, none⟩ = some (.string ((dS uH vW).f0)) := ZT 0 _ rfl; have hx17_1 : w23.cell? ⟨NR, (vW : Int).toNat * 2 + 1, none⟩ = some (.string ((dS uH vW).f1)) := ZT 1 _ rfl; have hf17_0 : w23.frozen? ⟨NR, (vW : Int).toNat * 2, none⟩ = false := ZU 0; have hf17_1 : w23.frozen? ⟨NR, (vW : Int).toNat * 2 + 1, none⟩ = false := ZU 1; clear hcl17 ZT ZU hM17; replace p17 := eq_true p17; replace q17 := eq_true q17; have HX24 := am (show Kd.R GX 67 w23 w.heap.size (fun _ => True) (.slice (some ⟨NR, 0, none⟩) uH.length Xx) uH from (zR uB.out)); obtain ⟨ce24, hcl24, hM24, ZW, hfr24⟩ := Kd.ZV HX24.out z67 (vW : Int) (of_decide_eq_true kJ) (by have h_ : (vW : Int) < ((uH.length : Int) : Int) := of_decide_eq_true kJ; first | exact h_ | (have e_ := (Kd.eG uB.out).1; omega) | simpa using h_); obtain rfl := Jy hM24; have HP24 := Kd.R_seg HX24.out (vW : Int) (of_decide_eq_true kJ) (by have h_ : (vW : Int) < ((uH.length : Int) : Int) := of_decide_eq_true kJ; first | exact h_ | (have e_ := (Kd.eG uB.out).1; omega) | simpa using h_) (seg := [.string Wl]) (j := 0) hcl24 ZW (show 1 ≤ 2 from dY) (x' := (⟨Wl, (dS uH vW).f1⟩ : iR)) (Td _ _ _ (⟨Wl, (dS uH vW).f1⟩ : iR) ) (fun _ hk => hk); have hx24_0 := ZW 0 _ rfl; (try simp only [show (GX).sz = 2 from rfl, Nat.mul_one, Nat.add_zero] at hx24_0); have hf24_0 := hfr24 0; (try simp only [show (GX).sz = 2 from rfl, Nat.mul_one, Nat.add_zero] at hf24_0); clear hcl24 ZW hfr24 hM24) | ((with_reducible refine Cb (t := 9) (p := 27) rfl ?_); refine AB (t := 9) (p := 27) (v := ?vo_w25) (w1 := (w23.setCell ⟨NR, (vW : Int).toNat * 2, none⟩ (.string Wl))) ?hg ?ho ?hn ?hr ?_; (case ho => rfl); (case hg => rfl); (case hn => rfl); (case hr => exact oI); intro w25 hw; have hg : w23.grownBy w25 (some NR) := (by rw [hw]; exact HP24.2); have hp_ : Kd.R GX 67 w25 w.heap.size (fun _ => True) (.slice (some ⟨NR, 0, none⟩) uH.length Xx) y484 := (by rw [hw, Ny484.out]; exact HP24.1); clear HP24; replace HI0 := am (aG.grown lW hg (aG.own_ne HI0.out uB.out dY)); replace GK := am (Kd.uU (v := (.slice (some ⟨NR, 0, none⟩) uH.length Xx)) (zR GK.out) (Kd.uV uB.out) dY hg); replace HB := am ((by rw [hw]; exact jV (HB.out) (Nat.le_trans HL.out GB17.out) : Below w0.heap.size w0 w25)); replace HK := am (aQ.trans lX (aQ.Dq hg g) (Kd.H7 uB.out)); replace uB := am hp_; clear hg hw hp_))
      go_ret
      exact ⟨_, pY, (zR uB.out), lW, lY, lX⟩
     ·rw [if_neg c16] at H
      exact absurd H gB
    ·rw [if_neg c15] at H
     exact absurd H gB
   ·replace c12 := Bool.eq_false_iff.mpr c12
    subst c12
    rw [if_neg (show ¬ (false = true) by decide)] at H
    simp only [Option.some.injEq, Prod.mk.injEq] at H
    obtain ⟨rfl, rfl, rfl⟩ := H
    go_wp2
    go_ret
    exact ⟨_, pY, (zR uB.out), lW, lY, lX⟩
set_option maxHeartbeats 8000000 in
set_option maxRecDepth 100000 in
theorem dL.calls (k : Nat) (A0 : Option Addr) (c0 : Nat) (l0 : List Int) (r : List (iR)) (w : World) (hr0 : Kd.C (Kd.int .u8) w A0 l0.length l0) (hc0 : l0.length ≤ c0) (hGE : cZ ji w) (hGM : cZ jU w) (hGT : cZ jb w) (h : dL.f k l0 = some r) :
  Calls Tryz.prog 8 #[.slice A0 l0.length c0] w fun e w' => ∃ KC : Value, e = .returned (KC) ∧ Kd.R GX 67 w' w.heap.size (fun _ => True) KC r ∧ Below w.heap.size w w' := by
 have HR0 := am hr0
 have Xr := am hc0
 clear hr0 hc0
 have HB := am (Below.refl w.heap.size w)
 have xu := am hGE
 clear hGE
 have xw := am hGM
 clear hGM
 have ve := am hGT
 clear hGT
 have H : ((bu.f k l0).bind fun IU => ((bg.f k IU.1 IU.2.1 IU.2.2).bind fun Xc => (some Xc.1))) = some r := h
 clear h
 replace H := Option.bind_eq_some_iff.mp H
 obtain ⟨⟨t488, t489, t490⟩, zU, H⟩ := H
 try dsimp only at H
 have A2 := am zU
 clear zU
 replace H := Option.bind_eq_some_iff.mp H
 obtain ⟨⟨t492, t495, t496⟩, yl, H⟩ := H
 replace H : (some t492) = some r := H
 have A3 := am yl
 clear yl
 obtain rfl := Option.some.inj H
 go_enter Tryz.func8, Tryz.ntmps8
 go_wp2_with (first | ((with_reducible refine aW (f := 43) rfl ?_); refine dU (some 4) rfl rfl Tryz.func43 dw rfl #[.slice A0 l0.length c0] rfl lV ?_; (with_reducible refine (bu.calls k _ _ l0 t488 t489 t490 w _ ?side1 ?side2 ?side3 A2.out).mono ?_); (case side1 => exact uA); (case side2 => exact HR0.out); (case side3 => exact Xr.out); rintro e w4 ⟨g491, rfl, hi, hb, hb2⟩; refine ⟨_, rfl, ?_⟩; replace HB := am hb; have Uy := am hi; (try clear hb); (try clear hb2); (try clear hk); (try clear hi)) | ((with_reducible refine aW (f := 42) rfl ?_); refine dU (some 5) rfl rfl Tryz.func42 dw rfl #[.pointer (some ⟨g491, 0, none⟩)] rfl lV ?_; (with_reducible refine (bg.calls k g491 t488 t489 t490 t492 t495 t496 w _ ?side1 ?side2 ?side3 ?side4 ?side5 A3.out).mono ?_); (case side1 => repeat (first | (with_reducible first | exact Uy.out | apply aG.alloc | apply aG.drewN | apply aG.drew | apply aG.Fa | apply aG.Fb) | exact Uy.out)); (case side2 => exact zb34); (case side3 => exact xu.out); (case side4 => exact xw.out); (case side5 => exact ve.out); rintro e w5 ⟨v493, rfl, ho0, hi, hb, hk⟩; refine ⟨_, rfl, ?_⟩; have HO494 := am (Kd.iT ho0 (eP zb34)); replace HB := am hb; replace Uy := am hi; (try clear hb); (try clear hb2); (try clear hk); (try clear hi); (try clear ho0)))
 go_ret
 exact ⟨_, pY, (zR HO494.out), zb34⟩
set_option maxHeartbeats 8000000 in
set_option maxRecDepth 100000 in
theorem dB.calls (k : Nat) (A0 : Option Addr) (c0 : Nat) (l0 : List Int) (r : List (iR)) (w : World) (hr0 : Kd.C (Kd.int .u8) w A0 l0.length l0) (hc0 : l0.length ≤ c0) (hGE : cZ ji w) (hGM : cZ jU w) (hGT : cZ jb w) (h : dB.f k l0 = some r) :
  Calls Tryz.prog 9 #[.slice A0 l0.length c0] w fun e w' => ∃ KC : Value, e = .returned (KC) ∧ Kd.R GX 67 w' w.heap.size (fun _ => True) KC r ∧ Below w.heap.size w w' := by
 have HR0 := am hr0
 have Xr := am hc0
 clear hr0 hc0
 have HB := am (Below.refl w.heap.size w)
 have xu := am hGE
 clear hGE
 have xw := am hGM
 clear hGM
 have ve := am hGT
 clear hGT
 have H : ((bu.f k l0).bind fun IV => ((bg.f k IV.1 IV.2.1 IV.2.2).bind fun Xd => (some Xd.1))) = some r := h
 clear h
 replace H := Option.bind_eq_some_iff.mp H
 obtain ⟨⟨t497, t498, t499⟩, zU, H⟩ := H
 try dsimp only at H
 have A2 := am zU
 clear zU
 replace H := Option.bind_eq_some_iff.mp H
 obtain ⟨⟨t501, t504, t505⟩, yl, H⟩ := H
 replace H : (some t501) = some r := H
 have A3 := am yl
 clear yl
 obtain rfl := Option.some.inj H
 go_enter Tryz.func9, Tryz.ntmps9
 go_wp2_with (first | ((with_reducible refine aW (f := 43) rfl ?_); refine dU (some 4) rfl rfl Tryz.func43 dw rfl #[.slice A0 l0.length c0] rfl lV ?_; (with_reducible refine (bu.calls k _ _ l0 t497 t498 t499 w _ ?side1 ?side2 ?side3 A2.out).mono ?_); (case side1 => exact uA); (case side2 => exact HR0.out); (case side3 => exact Xr.out); rintro e w4 ⟨g500, rfl, hi, hb, hb2⟩; refine ⟨_, rfl, ?_⟩; replace HB := am hb; have Uz := am hi; (try clear hb); (try clear hb2); (try clear hk); (try clear hi)) | ((with_reducible refine aW (f := 42) rfl ?_); refine dU (some 5) rfl rfl Tryz.func42 dw rfl #[.pointer (some ⟨g500, 0, none⟩)] rfl lV ?_; (with_reducible refine (bg.calls k g500 t497 t498 t499 t501 t504 t505 w _ ?side1 ?side2 ?side3 ?side4 ?side5 A3.out).mono ?_); (case side1 => repeat (first | (with_reducible first | exact Uz.out | apply aG.alloc | apply aG.drewN | apply aG.drew | apply aG.Fa | apply aG.Fb) | exact Uz.out)); (case side2 => exact zb33); (case side3 => exact xu.out); (case side4 => exact xw.out); (case side5 => exact ve.out); rintro e w5 ⟨v502, rfl, ho0, hi, hb, hk⟩; refine ⟨_, rfl, ?_⟩; have HO503 := am (Kd.iT ho0 (eP zb33)); replace HB := am hb; replace Uz := am hi; (try clear hb); (try clear hb2); (try clear hk); (try clear hi); (try clear ho0)))
 go_ret
 exact ⟨_, pY, (zR HO503.out), zb33⟩
set_option maxHeartbeats 8000000 in
set_option maxRecDepth 100000 in
theorem dD.calls (k : Nat) (A0 : Option Addr) (c0 : Nat) (l0 : List Int) (r : ByteArray) (w : World) (hr0 : Kd.C (Kd.int .u8) w A0 l0.length l0) (hc0 : l0.length ≤ c0) (hGE : cZ ji w) (hGM : cZ jU w) (hGT : cZ jb w) (h : dD.f k l0 = some r) :
  Calls Tryz.prog 11 #[.slice A0 l0.length c0] w fun e w' => e = .returned (.string r) ∧ Below w.heap.size w w' := by
 have HR0 := am hr0
 have Xr := am hc0
 clear hr0 hc0
 have HB := am (Below.refl w.heap.size w)
 have xu := am hGE
 clear hGE
 have xw := am hGM
 clear hGM
 have ve := am hGT
 clear hGT
 have H : ((bu.f k l0).bind fun D6 => ((aN.f k D6.1 D6.2.1 D6.2.2).bind fun IX => ((dn.f D6.1 IX.2.1 IX.2.2 IX.1).bind fun Xf => (some Xf.1)))) = some r := h
 clear h
 replace H := Option.bind_eq_some_iff.mp H
 obtain ⟨⟨t619, t620, t621⟩, zU, H⟩ := H
 try dsimp only at H
 have A2 := am zU
 clear zU
 replace H := Option.bind_eq_some_iff.mp H
 obtain ⟨⟨t623, t624, t625⟩, yl, H⟩ := H
 try dsimp only at H
 have A3 := am yl
 clear yl
 replace H := Option.bind_eq_some_iff.mp H
 obtain ⟨⟨t626, t627, t628⟩, UF, H⟩ := H
 replace H : (some t626) = some r := H
 have A4 := am UF
 clear UF
 obtain rfl := Option.some.inj H
 go_enter Tryz.func11, Tryz.ntmps11
 go_wp2_with (first | ((with_reducible refine aW (f := 43) rfl ?_); refine dU (some 5) rfl rfl Tryz.func43 dw rfl #[.slice A0 l0.length c0] rfl lV ?_; (with_reducible refine (bu.calls k _ _ l0 t619 t620 t621 w _ ?side1 ?side2 ?side3 A2.out).mono ?_); (case side1 => exact uA); (case side2 => exact HR0.out); (case side3 => exact Xr.out); rintro e w5 ⟨g622, rfl, hi, hb, hb2⟩; refine ⟨_, rfl, ?_⟩; replace HB := am hb; have QC := am hi; (try clear hb); (try clear hb2); (try clear hk); (try clear hi)) | ((with_reducible refine aW (f := 46) rfl ?_); refine dU (some 8) rfl rfl Tryz.func46 dw rfl #[.pointer (some ⟨g622, 0, none⟩)] rfl lV ?_; (with_reducible refine (aN.calls k g622 t619 t620 t621 t623 t624 t625 w _ ?side1 ?side2 ?side3 ?side4 ?side5 A3.out).mono ?_); (case side1 => exact zb42); (case side2 => exact zb32); (case side3 => exact xu.out); (case side4 => exact xw.out); (case side5 => exact ve.out); rintro e w6 ⟨rfl, hi, hb, hk⟩; refine ⟨_, rfl, ?_⟩; replace HB := am hb; replace QC := am hi; (try clear hb); (try clear hb2); (try clear hk); (try clear hi)) | ((with_reducible refine aW (f := 45) rfl ?_); refine dU (some 9) rfl rfl Tryz.func45 dw rfl #[.pointer (some ⟨g622, 0, none⟩), .string t623] rfl lV ?_; (with_reducible refine (dn.calls g622 t619 t624 t625 t623 t626 t627 t628 w _ ?side1 ?side2 A4.out).mono ?_); (case side1 => exact zb42); (case side2 => exact zb32); rintro e w7 ⟨rfl, hi, hb, hk⟩; refine ⟨_, rfl, ?_⟩; replace HB := am hb; replace QC := am hi; (try clear hb); (try clear hb2); (try clear hk); (try clear hi)))
 go_ret
 exact ⟨pY, zb32⟩
set_option maxHeartbeats 8000000 in
set_option maxRecDepth 100000 in
theorem eF.calls (k : Nat) (A0 : Option Addr) (c0 : Nat) (l0 : List Int) (r : ByteArray) (w : World) (hr0 : Kd.C (Kd.int .u8) w A0 l0.length l0) (hc0 : l0.length ≤ c0) (hGE : cZ ji w) (hGM : cZ jU w) (hGT : cZ jb w) (h : eF.f k l0 = some r) :
  Calls Tryz.prog 14 #[.slice A0 l0.length c0] w fun e w' => e = .returned (.string r) ∧ Below w.heap.size w w' := by
 have HR0 := am hr0
 have Xr := am hc0
 clear hr0 hc0
 have HB := am (Below.refl w.heap.size w)
 have xu := am hGE
 clear hGE
 have xw := am hGM
 clear hGM
 have ve := am hGT
 clear hGT
 have H : ((bu.f k l0).bind fun D7 => ((bY.f k D7.1 D7.2.1 D7.2.2).bind fun IY => ((dn.f D7.1 IY.2.1 IY.2.2 IY.1).bind fun Xl => (some Xl.1)))) = some r := h
 clear h
 replace H := Option.bind_eq_some_iff.mp H
 obtain ⟨⟨t730, t731, t732⟩, zU, H⟩ := H
 try dsimp only at H
 have A2 := am zU
 clear zU
 replace H := Option.bind_eq_some_iff.mp H
 obtain ⟨⟨t734, t735, t736⟩, yl, H⟩ := H
 try dsimp only at H
 have A3 := am yl
 clear yl
 replace H := Option.bind_eq_some_iff.mp H
 obtain ⟨⟨t737, t738, t739⟩, UF, H⟩ := H
 replace H : (some t737) = some r := H
 have A4 := am UF
 clear UF
 obtain rfl := Option.some.inj H
 go_enter Tryz.func14, Tryz.ntmps14
 go_wp2_with (first | ((with_reducible refine aW (f := 43) rfl ?_); refine dU (some 5) rfl rfl Tryz.func43 dw rfl #[.slice A0 l0.length c0] rfl lV ?_; (with_reducible refine (bu.calls k _ _ l0 t730 t731 t732 w _ ?side1 ?side2 ?side3 A2.out).mono ?_); (case side1 => exact uA); (case side2 => exact HR0.out); (case side3 => exact Xr.out); rintro e w5 ⟨g733, rfl, hi, hb, hb2⟩; refine ⟨_, rfl, ?_⟩; replace HB := am hb; have QD := am hi; (try clear hb); (try clear hb2); (try clear hk); (try clear hi)) | ((with_reducible refine aW (f := 52) rfl ?_); refine dU (some 8) rfl rfl Tryz.func52 dw rfl #[.pointer (some ⟨g733, 0, none⟩)] rfl lV ?_; (with_reducible refine (bY.calls k g733 t730 t731 t732 t734 t735 t736 w _ ?side1 ?side2 ?side3 ?side4 ?side5 A3.out).mono ?_); (case side1 => exact zb41); (case side2 => exact zb31); (case side3 => exact xu.out); (case side4 => exact xw.out); (case side5 => exact ve.out); rintro e w6 ⟨rfl, hi, hb, hk⟩; refine ⟨_, rfl, ?_⟩; replace HB := am hb; replace QD := am hi; (try clear hb); (try clear hb2); (try clear hk); (try clear hi)) | ((with_reducible refine aW (f := 45) rfl ?_); refine dU (some 9) rfl rfl Tryz.func45 dw rfl #[.pointer (some ⟨g733, 0, none⟩), .string t734] rfl lV ?_; (with_reducible refine (dn.calls g733 t730 t735 t736 t734 t737 t738 t739 w _ ?side1 ?side2 A4.out).mono ?_); (case side1 => exact zb41); (case side2 => exact zb31); rintro e w7 ⟨rfl, hi, hb, hk⟩; refine ⟨_, rfl, ?_⟩; replace HB := am hb; replace QD := am hi; (try clear hb); (try clear hb2); (try clear hk); (try clear hi)))
 go_ret
 exact ⟨pY, zb31⟩
set_option maxHeartbeats 8000000 in
set_option maxRecDepth 100000 in
theorem fZ.calls (k : Nat) (A0 : Option Addr) (c0 : Nat) (l0 : List Int) (r1 : ByteArray) (r2 : List (iR)) (w : World) (hr0 : Kd.C (Kd.int .u8) w A0 l0.length l0) (hc0 : l0.length ≤ c0) (hGE : cZ ji w) (hGM : cZ jU w) (hGT : cZ jb w) (h : fZ.f k l0 = some (r1, r2)) :
  Calls Tryz.prog 21 #[.slice A0 l0.length c0] w fun e w' => ∃ v1_ : Value, e = .returned (.tuple #[.string r1, v1_]) ∧ Kd.R GX 67 w' w.heap.size (fun _ => True) v1_ r2 ∧ Below w.heap.size w w' := by
 have HR0 := am hr0
 have Xr := am hc0
 clear hr0 hc0
 have HB := am (Below.refl w.heap.size w)
 have xu := am hGE
 clear hGE
 have xw := am hGM
 clear hGM
 have ve := am hGT
 clear hGT
 have H : ((bu.f k l0).bind fun D8 => ((bY.f k D8.1 D8.2.1 D8.2.2).bind fun IZ => ((bg.f k D8.1 IZ.2.1 IZ.2.2).bind fun Xo => (some (IZ.1, Xo.1))))) = some (r1, r2) := h
 clear h
 replace H := Option.bind_eq_some_iff.mp H
 obtain ⟨⟨t775, t776, t777⟩, zU, H⟩ := H
 try dsimp only at H
 have A2 := am zU
 clear zU
 replace H := Option.bind_eq_some_iff.mp H
 obtain ⟨⟨t779, t780, t781⟩, yl, H⟩ := H
 try dsimp only at H
 have A3 := am yl
 clear yl
 replace H := Option.bind_eq_some_iff.mp H
 obtain ⟨⟨t782, t785, t786⟩, UF, H⟩ := H
 try dsimp only at H
 have A4 := am UF
 clear UF
 simp only [Option.some.injEq, Prod.mk.injEq] at H
 obtain ⟨rfl, rfl⟩ := H
 go_enter Tryz.func21, Tryz.ntmps21
 go_wp2_with (first | ((with_reducible refine aW (f := 43) rfl ?_); refine dU (some 7) rfl rfl Tryz.func43 dw rfl #[.slice A0 l0.length c0] rfl lV ?_; (with_reducible refine (bu.calls k _ _ l0 t775 t776 t777 w _ ?side1 ?side2 ?side3 A2.out).mono ?_); (case side1 => exact uA); (case side2 => exact HR0.out); (case side3 => exact Xr.out); rintro e w5 ⟨g778, rfl, hi, hb, hb2⟩; refine ⟨_, rfl, ?_⟩; replace HB := am hb; have QE := am hi; (try clear hb); (try clear hb2); (try clear hk); (try clear hi)) | ((with_reducible refine aW (f := 52) rfl ?_); refine dU (some 9) rfl rfl Tryz.func52 dw rfl #[.pointer (some ⟨g778, 0, none⟩)] rfl lV ?_; (with_reducible refine (bY.calls k g778 t775 t776 t777 t779 t780 t781 w _ ?side1 ?side2 ?side3 ?side4 ?side5 A3.out).mono ?_); (case side1 => exact zb40); (case side2 => exact zb27); (case side3 => exact xu.out); (case side4 => exact xw.out); (case side5 => exact ve.out); rintro e w6 ⟨rfl, hi, hb, hk⟩; refine ⟨_, rfl, ?_⟩; replace HB := am hb; replace QE := am hi; (try clear hb); (try clear hb2); (try clear hk); (try clear hi)) | ((with_reducible refine aW (f := 42) rfl ?_); refine dU (some 12) rfl rfl Tryz.func42 dw rfl #[.pointer (some ⟨g778, 0, none⟩)] rfl lV ?_; (with_reducible refine (bg.calls k g778 t775 t780 t781 t782 t785 t786 w _ ?side1 ?side2 ?side3 ?side4 ?side5 A4.out).mono ?_); (case side1 => exact zb40); (case side2 => exact zb27); (case side3 => exact xu.out); (case side4 => exact xw.out); (case side5 => exact ve.out); rintro e w7 ⟨v783, rfl, ho0, hi, hb, hk⟩; refine ⟨_, rfl, ?_⟩; have HO784 := am (Kd.iT ho0 (eP zb27)); replace HB := am hb; replace QE := am hi; (try clear hb); (try clear hb2); (try clear hk); (try clear hi); (try clear ho0)))
 go_ret2
 exact ⟨_, pY, (zR HO784.out), zb27⟩
end Go.Proofs.YtieohddolkeegaaGreatDoor.G

end
