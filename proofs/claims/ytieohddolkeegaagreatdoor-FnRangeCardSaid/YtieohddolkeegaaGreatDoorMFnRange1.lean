/- A part of the proof that the law FnRange answers true at every input that its row speaks of. Conditions: the row's own. -/
import Derived.Test.YtieohddolkeegaaGreatDoorOpZ
import Derived.Test.YtieohddolkeegaaGreatDoorKFnRange0
import Derived.Test.YtieohddolkeegaaGreatDoorMFnRange0
import Derived.Test.YtieohddolkeegaaGreatDoorKFnRange1
section
namespace Go.Proofs.YtieohddolkeegaaGreatDoor.G
open Go.RowKit Go.Proofs.aA.aZ Go.Proofs.aA.jM Go.Proofs.aA.mW
attribute [local go_sem] qj ql uO uP o8 o9 qm qo
attribute [local go_sem high] Go.Proofs.YtieohddolkeegaaGreatDoor.G.sH Go.Proofs.YtieohddolkeegaaGreatDoor.G.sJ Go.Proofs.YtieohddolkeegaaGreatDoor.G.sK
set_option linter.unusedVariables false
set_option linter.unusedSimpArgs false
def aV.T5 : Bool × List (List Nat × List Nat) := (true, [([], []), ([0], [0]), ([], []), ([], []), ([2, 3], [2, 3]), ([4], [4]), ([1, 5, 4], [1, 5]), ([0, 1, 2, 3, 4, 5, 6], []), ([7, 6, 6, 0, 1, 2, 3, 4, 5, 6], [6, 7])])
def aV.B5 : List Nat := [0, 1, 0, 0, 12, 28, 63, 127, 255]
theorem aV.tab5 : tC .any (opsOf Tryz.f103 5) = aV.T5 := by kernel_rfl
theorem aV.bits5 : uS aV.T5.2 aV.B5 = true := by kernel_rfl
def aV.T10 : Bool × List (List Nat × List Nat) := (true, [([], []), ([0], [0]), ([], []), ([], []), ([2, 3], [2, 3]), ([4], [4]), ([1, 5, 4], [1, 5]), ([0, 1, 2, 3, 4, 5, 6], []), ([7, 6, 6, 0, 1, 2, 3, 4, 5, 6], [6, 7])])
def aV.B10 : List Nat := [0, 1, 0, 0, 12, 28, 63, 127, 255]
theorem aV.tab10 : tC .any (opsOf Tryz.f103 10) = aV.T10 := by kernel_rfl
theorem aV.bits10 : uS aV.T10.2 aV.B10 = true := by kernel_rfl
set_option maxHeartbeats 8000000 in
set_option maxRecDepth 100000 in
theorem aV.calls (k : Nat) (g : Nat) (ax : List Int) (gX : Int) (gu : Int) (r1 : Int) (r2 : Int) (r3 : Int) (r4 : List ByteArray) (r5 : Int) (r6 : Int) (w0 w : World) (hI : aG w0 w g ax gX gu) (hB : Below w0.heap.size w0 w) (h : aV.f k ax gX gu = some (r1, r2, r3, r4, r5, r6)) :
  Calls Tryz.prog 103 #[.pointer (some ⟨g, 0, none⟩)] w fun e w' => ∃ v3_ : Value, e = .returned (.agg #[.int .i64 r1, .int .i64 r2, .int .i64 r3, v3_]) ∧ Kd.R Kd.string 9 w' w.heap.size (fun _ => True) v3_ r4 ∧ aG w0 w' g ax r5 r6 ∧ Below w0.heap.size w0 w' ∧ aQ w w' g none := by
 have hu77 := Tryz.underlying77
 have HI0 := am hI
 have HK := am (aQ.refl w g none)
 have HL := am hB.size
 clear hI
 have HW0 := am hB.size
 have HB := am hB
 clear hB
 have H : ((di.f ax gX gu (([0, 1, 1, 2, 10] : List Int))).bind fun zL => ((di.f ax zL.2.1 zL.2.2 (([0, 0, 1, 2, 12] : List Int))).bind fun zM => ((di.f ax zM.2.1 zM.2.2 (([0, 0, 1, 3, 9] : List Int))).bind fun zN => ((fQ.f ax zN.2.1 zN.2.2 4).bind fun zO => (if zO.1 = true then ((cO.f ax zO.2.1 zO.2.2 (([(⟨#[114, 99]⟩ : ByteArray), (⟨#[98, 101, 116, 97]⟩ : ByteArray), (⟨#[49]⟩ : ByteArray), (⟨#[48]⟩ : ByteArray), (⟨#[120, 45, 121]⟩ : ByteArray)] : List ByteArray))).bind fun IJ => ((some (([IJ.1] : List ByteArray) : List ByteArray)).bind fun oq => ((fQ.f ax IJ.2.1 IJ.2.2 2).bind fun sU => (if sU.1 = true then ((cO.f ax sU.2.1 sU.2.2 (([(⟨#[49]⟩ : ByteArray), (⟨#[50]⟩ : ByteArray), (⟨#[49, 48]⟩ : ByteArray), (⟨#[97]⟩ : ByteArray)] : List ByteArray))).bind fun zQ => (if oq.length < 8796093022208 then (aV.j0 k ax zQ.2.1 zQ.2.2 zL.1 zM.1 zN.1 (oq ++ [zQ.1])) else (none))) else (aV.j0 k ax sU.2.1 sU.2.2 zL.1 zM.1 zN.1 oq))))) else (aV.j0 k ax zO.2.1 zO.2.2 zL.1 zM.1 zN.1 ([] : List ByteArray))))))) = some (r1, r2, r3, r4, r5, r6) := h
 clear h
 obtain ⟨y350, UC⟩ : ∃ y_ : List Int, y_ = (([0, 1, 1, 2, 10] : List Int)) := ⟨_, rfl⟩
 first | replace H := hb1 H (show (di.f ax gX gu y350) = _ from (by rw [UC])) | replace H := hb1 (hb2 H) (show (di.f ax gX gu y350) = _ from (by rw [UC]))
 have Ny350 := am UC
 clear UC
 replace H := Option.bind_eq_some_iff.mp H
 obtain ⟨⟨jQ, V9, Va⟩, zU, H⟩ := H
 try dsimp only at H
 have A2 := am zU
 clear zU
 obtain ⟨y356, UD⟩ : ∃ y_ : List Int, y_ = (([0, 0, 1, 2, 12] : List Int)) := ⟨_, rfl⟩
 first | replace H := hb1 H (show (di.f ax V9 Va y356) = _ from (by rw [UD])) | replace H := hb1 (hb2 H) (show (di.f ax V9 Va y356) = _ from (by rw [UD]))
 have Ny356 := am UD
 clear UD
 replace H := Option.bind_eq_some_iff.mp H
 obtain ⟨⟨jl, Qm, Qn⟩, yl, H⟩ := H
 try dsimp only at H
 have A3 := am yl
 clear yl
 obtain ⟨y362, UE⟩ : ∃ y_ : List Int, y_ = (([0, 0, 1, 3, 9] : List Int)) := ⟨_, rfl⟩
 first | replace H := hb1 H (show (di.f ax Qm Qn y362) = _ from (by rw [UE])) | replace H := hb1 (hb2 H) (show (di.f ax Qm Qn y362) = _ from (by rw [UE]))
 have Ny362 := am UE
 clear UE
 replace H := Option.bind_eq_some_iff.mp H
 obtain ⟨⟨jm, Qo, Qp⟩, UF, H⟩ := H
 try dsimp only at H
 have A4 := am UF
 clear UF
 replace H := Option.bind_eq_some_iff.mp H
 obtain ⟨⟨t369, Dl, Dn⟩, A50, H⟩ := H
 try dsimp only at H
 have A5 := am A50
 clear A50
 have HC6 := am H
 clear H
 go_enter Tryz.func103, Tryz.ntmps103
 go_upto_if 15 with (first | ((with_reducible refine jF (N := 2) rfl ?_); refine uk ?hg (N := 2) ?hd (cs := #[.int .i64 0, .int .i64 0, .int .i64 0, .slice none 0 0]) (t := 77) ?hr ?_; (case hd => rfl); (case hg => rfl); (case hr => exact oI); intro fP hg w7 hbox hb; replace HB := am (bK lY hb); have dG := am hbox; have GW349 := am ((by rw [hg]; exact (gz (w := w) (g := g) (row := none) lX) : w.heap.size ≤ fP)); have GE349 := am ((Nat.le_trans HW0.out (by rw [hg]; exact (gz (w := w) (g := g) (row := none) lX) : w.heap.size ≤ fP) : w0.heap.size ≤ fP)); replace HK := am (kb lX hb); have yD := am ((by rw [hg]; exact Nat.ne_of_lt (aG.lt (show aG w0 _ g ax gX gu from lW)) : g ≠ fP)); have jq := am ((by rw [hg]; exact Nat.ne_of_gt (aG.lt (show aG w0 _ g ax gX gu from lW)) : fP ≠ g)); replace HI0 := am (aG.below lW hb); clear hb hbox hg) | ((with_reducible refine jF (N := 5) rfl ?_); refine Kd.su (Kd.int .i64) _ 3 ?hg (N := 5) ?hd (xs := ([0, 1, 1, 2, 10] : List Int)) (inner := [.int .i64 0, .int .i64 1, .int .i64 1, .int .i64 2, .int .i64 10]) (ok := fun _ => True) (okp := fun _ => True) ?hr ?hp (fun _ hk => hk) trivial (Below.refl _ _) (Nat.le_refl _) gB ?_; (case hd => rfl); (case hg => rfl); (case hr => exact oI); (case hp => exact Vb); intro v351 w8 ho9 hb xH jf; clear xH jf; (first | rw [← Ny350.out] at ho9 | (simp only [Int.reduceToNat] at ho9; rw [← Ny350.out] at ho9)); have jR := am (Kd.iT ho9 (gz (w := w) (g := g) (row := none) GY)); replace dG := am (dI (zB dG.out) hb); replace HK := am (kb GY hb); replace HB := am (bK Qq hb); replace HI0 := am (aG.below Bq hb); clear hb ho9; obtain ⟨Ao10, co10, eo10⟩ := Kd.iK jR.out; subst eo10) | ((with_reducible refine aW (f := 138) rfl ?_); refine dU (some 6) rfl rfl Tryz.func138 dw rfl #[.pointer (some ⟨g, 0, none⟩), .slice Ao10 y350.length co10] rfl lV ?_; (with_reducible refine (di.calls g ax gX gu _ _ y350 jQ V9 Va w0 _ ?side1 ?side2 ?side3 ?side4 ?side5 A2.out).mono ?_); (case side1 => exact Bq); (case side2 => exact Qq); (case side3 => repeat (first | exact (Kd.eG jR.out).2.2 | (with_reducible refine Kd.rC ?_ _) | (with_reducible refine Kd.rD ?_ _) | (with_reducible refine Kd.uz ?_))); (case side4 => exact (Kd.eG jR.out).2.1); (case side5 => exact lg (aG.own_ne HI0.out jR.out dY)); rintro e w11 ⟨rfl, hi, hb, hk⟩; refine ⟨_, rfl, ?_⟩; replace dG := am (aQ.blk hk (g' := fP) (o := .cells #[.int .i64 0, .int .i64 0, .int .i64 0, .slice none 0 0] 77 (0, 0)) (zB dG.out) jq.out gB); replace jR := am (kz (aG.apart (show aG w0 _ g ax gX gu from Bq) (zR jR.out) dY) hk); replace HK := am (aQ.trans GY hk (.inl rfl)); replace HB := am hb; replace HI0 := am hi; (try clear hb); (try clear hb2); (try clear hk); (try clear hi)) | ((with_reducible refine jF (N := 8) rfl ?_); refine Kd.su (Kd.int .i64) _ 3 ?hg (N := 8) ?hd (xs := ([0, 0, 1, 2, 12] : List Int)) (inner := [.int .i64 0, .int .i64 0, .int .i64 1, .int .i64 2, .int .i64 12]) (ok := fun _ => True) (okp := fun _ => True) ?hr ?hp (fun _ hk => hk) trivial (Below.refl _ _) (Nat.le_refl _) gB ?_; (case hd => rfl); (case hg => rfl); (case hr => exact oI); (case hp => exact Vb); intro v357 w12 GZ hb xH jf; clear xH jf; (first | rw [← Ny356.out] at GZ | (simp only [Int.reduceToNat] at GZ; rw [← Ny356.out] at GZ)); have jk := am (Kd.iT (Kd.vC GZ (Kd.Bv (zR jR.out))) (gz (w := w) (g := g) (row := none) GY)); replace jR := am (Kd.oO (zR jR.out) (Kd.vF GZ) hb); replace dG := am (dI (zB dG.out) hb); replace HK := am (kb GY hb); replace HB := am (bK Qq hb); replace HI0 := am (aG.below Bq hb); clear hb GZ; obtain ⟨G5, G6, eo14⟩ := Kd.iK jk.out; subst eo14) | ((with_reducible refine aW (f := 138) rfl ?_); refine dU (some 9) rfl rfl Tryz.func138 dw rfl #[.pointer (some ⟨g, 0, none⟩), .slice G5 y356.length G6] rfl lV ?_; (with_reducible refine (di.calls g ax V9 Va _ _ y356 jl Qm Qn w0 _ ?side1 ?side2 ?side3 ?side4 ?side5 A3.out).mono ?_); (case side1 => exact Bq); (case side2 => exact Qq); (case side3 => repeat (first | exact (Kd.eG jk.out).2.2 | (with_reducible refine Kd.rC ?_ _) | (with_reducible refine Kd.rD ?_ _) | (with_reducible refine Kd.uz ?_))); (case side4 => exact (Kd.eG jk.out).2.1); (case side5 => exact lg (aG.own_ne HI0.out jk.out dY)); rintro e w15 ⟨rfl, hi, hb, hk⟩; refine ⟨_, rfl, ?_⟩; replace dG := am (aQ.blk hk (g' := fP) (o := .cells #[.int .i64 0, .int .i64 0, .int .i64 0, .slice none 0 0] 77 (0, 0)) (zB dG.out) jq.out gB); replace jR := am (kz (aG.apart (show aG w0 _ g ax V9 Va from Bq) (zR jR.out) dY) hk); replace jk := am (kz (aG.apart (show aG w0 _ g ax V9 Va from Bq) (zR jk.out) dY) hk); replace HK := am (aQ.trans GY hk (.inl rfl)); replace HB := am hb; replace HI0 := am hi; (try clear hb); (try clear hb2); (try clear hk); (try clear hi)) | ((with_reducible refine jF (N := 11) rfl ?_); refine Kd.su (Kd.int .i64) _ 3 ?hg (N := 11) ?hd (xs := ([0, 0, 1, 3, 9] : List Int)) (inner := [.int .i64 0, .int .i64 0, .int .i64 1, .int .i64 3, .int .i64 9]) (ok := fun _ => True) (okp := fun _ => True) ?hr ?hp (fun _ hk => hk) trivial (Below.refl _ _) (Nat.le_refl _) gB ?_; (case hd => rfl); (case hg => rfl); (case hr => exact oI); (case hp => exact Vb); intro v363 w16 Qr hb xH jf; clear xH jf; (first | rw [← Ny362.out] at Qr | (simp only [Int.reduceToNat] at Qr; rw [← Ny362.out] at Qr)); have kS := am (Kd.iT (Kd.vC (Kd.vC Qr (Kd.Bv (zR jR.out))) (Kd.Bv (zR jk.out))) (gz (w := w) (g := g) (row := none) GY)); replace jR := am (Kd.oO (zR jR.out) (Kd.vF Qr) hb); replace jk := am (Kd.oO (zR jk.out) (Kd.vF Qr) hb); replace dG := am (dI (zB dG.out) hb); replace HK := am (kb GY hb); replace HB := am (bK Qq hb); replace HI0 := am (aG.below Bq hb); clear hb Qr; obtain ⟨Ao18, Xx, eo18⟩ := Kd.iK kS.out; subst eo18) | ((with_reducible refine aW (f := 138) rfl ?_); refine dU (some 12) rfl rfl Tryz.func138 dw rfl #[.pointer (some ⟨g, 0, none⟩), .slice Ao18 y362.length Xx] rfl lV ?_; (with_reducible refine (di.calls g ax Qm Qn _ _ y362 jm Qo Qp w0 _ ?side1 ?side2 ?side3 ?side4 ?side5 A4.out).mono ?_); (case side1 => exact Bq); (case side2 => exact Qq); (case side3 => repeat (first | exact (Kd.eG kS.out).2.2 | (with_reducible refine Kd.rC ?_ _) | (with_reducible refine Kd.rD ?_ _) | (with_reducible refine Kd.uz ?_))); (case side4 => exact (Kd.eG kS.out).2.1); (case side5 => exact lg (aG.own_ne HI0.out kS.out dY)); rintro e w19 ⟨rfl, hi, hb, hk⟩; refine ⟨_, rfl, ?_⟩; replace dG := am (aQ.blk hk (g' := fP) (o := .cells #[.int .i64 0, .int .i64 0, .int .i64 0, .slice none 0 0] 77 (0, 0)) (zB dG.out) jq.out gB); replace jR := am (kz (aG.apart (show aG w0 _ g ax Qm Qn from Bq) (zR jR.out) dY) hk); replace jk := am (kz (aG.apart (show aG w0 _ g ax Qm Qn from Bq) (zR jk.out) dY) hk); replace kS := am (kz (aG.apart (show aG w0 _ g ax Qm Qn from Bq) (zR kS.out) dY) hk); replace HK := am (aQ.trans GY hk (.inl rfl)); replace HB := am hb; replace HI0 := am hi; (try clear hb); (try clear hb2); (try clear hk); (try clear hi)) | ((with_reducible refine jF (N := 3) rfl ?_); refine uk ?hg (N := 3) ?hd (cs := #[.int .i64 0, .int .i64 0, .int .i64 0, .slice none 0 0]) (t := 77) ?hr ?_; (case hd => rfl); (case hg => rfl); (case hr => exact oI); intro dR hg w20 hbox hb; replace jR := am (Kd.bQ (zR jR.out) hb); replace jk := am (Kd.bQ (zR jk.out) hb); replace kS := am (Kd.bQ (zR kS.out) hb); replace HB := am (bK Qq hb); have ah := am hbox; have GW368 := am ((by rw [hg]; exact (gz (w := w) (g := g) (row := none) GY) : w.heap.size ≤ dR)); have GE368 := am ((Nat.le_trans HW0.out (by rw [hg]; exact (gz (w := w) (g := g) (row := none) GY) : w.heap.size ≤ dR) : w0.heap.size ≤ dR)); replace HK := am (kb GY hb); have jg := am ((by rw [hg]; exact Nat.ne_of_lt (lZ (g := fP) (o := .cells #[.int .i64 0, .int .i64 0, .int .i64 0, .slice none 0 0] 77 (0, 0)) (zB dG.out)) : fP ≠ dR)); have oC := am ((by rw [hg]; exact Nat.ne_of_gt (lZ (g := fP) (o := .cells #[.int .i64 0, .int .i64 0, .int .i64 0, .slice none 0 0] 77 (0, 0)) (zB dG.out)) : dR ≠ fP)); replace dG := am (dI (zB dG.out) hb); have uT := am ((by rw [hg]; exact Nat.ne_of_lt (aG.lt (show aG w0 _ g ax Qo Qp from Bq)) : g ≠ dR)); have jr := am ((by rw [hg]; exact Nat.ne_of_gt (aG.lt (show aG w0 _ g ax Qo Qp from Bq)) : dR ≠ g)); replace HI0 := am (aG.below Bq hb); clear hb hbox hg; have hnb21 := oC.out; have hnc21 := jg.out; have hnb22 := jr.out; have hnc22 := uT.out; have UG : w20.cell? ⟨dR, 0, none⟩ = some (.int .i64 0) := bc ah.out 0; have UH : w20.cell? ⟨dR, 1, none⟩ = some (.int .i64 0) := bc ah.out 1; have hcz23_2 : w20.cell? ⟨dR, 2, none⟩ = some (.int .i64 0) := bc ah.out 2; have hcz23_3 : w20.cell? ⟨dR, 3, none⟩ = some (.slice none 0 0) := bc ah.out 3; have UI := aX ah.out 0; have UJ := aX ah.out 1; have hfz23_2 := aX ah.out 2; have hfz23_3 := aX ah.out 3) | ((with_reducible refine aW (f := 86) rfl ?_); refine dU (some 15) rfl rfl Tryz.func86 dw rfl #[.pointer (some ⟨g, 0, none⟩), .int .i64 4] rfl lV ?_; (with_reducible refine (fQ.calls g ax Qo Qp 4 t369 Dl Dn w0 _ ?side1 ?side2 A5.out).mono ?_); (case side1 => exact oK); (case side2 => exact zV); rintro e w24 ⟨rfl, hi, hb, hk⟩; refine ⟨_, rfl, ?_⟩; replace dG := am (aQ.blk hk (g' := fP) (o := .cells #[.int .i64 0, .int .i64 0, .int .i64 0, .slice none 0 0] 77 (0, 0)) (by (with_reducible repeat (first | refine qg ?_ _ | refine qh ?_ | refine qi ?_ _)); refine oh ?_ jg.out _; (with_reducible repeat (first | refine qg ?_ _ | refine qh ?_ | refine qi ?_ _)); refine oh ?_ jg.out _; (with_reducible repeat (first | refine qg ?_ _ | refine qh ?_ | refine qi ?_ _)); refine oh ?_ jg.out _; (with_reducible repeat (first | refine qg ?_ _ | refine qh ?_ | refine qi ?_ _)); refine oh ?_ jg.out _; (with_reducible repeat (first | refine qg ?_ _ | refine qh ?_ | refine qi ?_ _)); exact dG.out) jq.out gB); replace jR := am (kz (aG.apart (show aG w0 _ g ax Qo Qp from oK) (zR (Kd.gG (Kd.gV (p := ⟨dR, 3, none⟩) (Kd.gV (p := ⟨dR, 2, none⟩) (Kd.gV (p := ⟨dR, 1, none⟩) (Kd.gV (p := ⟨dR, 0, none⟩) (Kd.iQ jR.out ah.out dY) (fun _ hk => hk.2) (.int .i64 jQ)) (fun _ hk => hk.2) (.int .i64 jl)) (fun _ hk => hk.2) (.int .i64 jm)) (fun _ hk => hk.2) (.slice none 0 0)) (fun _ h_ => h_.1))) dY) hk); replace jk := am (kz (aG.apart (show aG w0 _ g ax Qo Qp from oK) (zR (Kd.gG (Kd.gV (p := ⟨dR, 3, none⟩) (Kd.gV (p := ⟨dR, 2, none⟩) (Kd.gV (p := ⟨dR, 1, none⟩) (Kd.gV (p := ⟨dR, 0, none⟩) (Kd.iQ jk.out ah.out dY) (fun _ hk => hk.2) (.int .i64 jQ)) (fun _ hk => hk.2) (.int .i64 jl)) (fun _ hk => hk.2) (.int .i64 jm)) (fun _ hk => hk.2) (.slice none 0 0)) (fun _ h_ => h_.1))) dY) hk); replace kS := am (kz (aG.apart (show aG w0 _ g ax Qo Qp from oK) (zR (Kd.gG (Kd.gV (p := ⟨dR, 3, none⟩) (Kd.gV (p := ⟨dR, 2, none⟩) (Kd.gV (p := ⟨dR, 1, none⟩) (Kd.gV (p := ⟨dR, 0, none⟩) (Kd.iQ kS.out ah.out dY) (fun _ hk => hk.2) (.int .i64 jQ)) (fun _ hk => hk.2) (.int .i64 jl)) (fun _ hk => hk.2) (.int .i64 jm)) (fun _ hk => hk.2) (.slice none 0 0)) (fun _ h_ => h_.1))) dY) hk); replace ah := am (aQ.blk hk (g' := dR) (o := .cells #[.int .i64 jQ, .int .i64 jl, .int .i64 jm, .slice none 0 0] 77 (0, 0)) (by (with_reducible repeat (first | refine qg ?_ _ | refine qh ?_ | refine qi ?_ _)); refine iU (cs := #[.int .i64 jQ, .int .i64 jl, .int .i64 jm, .slice none 0 0]) ?_ 3 _ rfl; (with_reducible repeat (first | refine qg ?_ _ | refine qh ?_ | refine qi ?_ _)); refine iU (cs := #[.int .i64 jQ, .int .i64 jl, .int .i64 0, .slice none 0 0]) ?_ 2 _ rfl; (with_reducible repeat (first | refine qg ?_ _ | refine qh ?_ | refine qi ?_ _)); refine iU (cs := #[.int .i64 jQ, .int .i64 0, .int .i64 0, .slice none 0 0]) ?_ 1 _ rfl; (with_reducible repeat (first | refine qg ?_ _ | refine qh ?_ | refine qi ?_ _)); refine iU (cs := #[.int .i64 0, .int .i64 0, .int .i64 0, .slice none 0 0]) ?_ 0 _ rfl; (with_reducible repeat (first | refine qg ?_ _ | refine qh ?_ | refine qi ?_ _)); exact ah.out) jr.out gB); replace HK := am (aQ.trans vG hk (.inl rfl)); replace HB := am hb; replace HI0 := am hi; (try clear hb); (try clear hb2); (try clear hk); (try clear hi)))
 (try simp only [Act.put, List.setIfInBounds_toArray, List.set_cons_zero, List.set_cons_succ])
 go_cut [] (fun wc => ∃ (kq : Nat) (ou : Int) (oz : Int) (oD : List ByteArray) (kN : Value), dC (aV.j0 kq ax ou oz jQ jl jm oD = some (r1, r2, r3, r4, r5, r6)) ∧ dC (kq ≤ k) ∧ dC (Kd.R Kd.string 9 wc w.heap.size (fun _ => True) kN oD) ∧ dC (wc.heap[fP]? = some (.cells #[.int .i64 0, .int .i64 0, .int .i64 0, (.slice none 0 0)] 77 (0, 0))) ∧ dC (wc.heap[dR]? = some (.cells #[.int .i64 jQ, .int .i64 jl, .int .i64 jm, kN] 77 (0, 0))) ∧ dC (aG w0 wc g ax ou oz) ∧ dC (aQ w wc g none) ∧ dC (Below w0.heap.size w0 wc))
 case first =>
  have H := HC6.out
  clear HC6
  by_cases c25 : t369 = true
  ·subst c25
   rw [if_pos rfl] at H
   obtain ⟨OT, UK⟩ : ∃ y_ : List ByteArray, y_ = (([(⟨#[114, 99]⟩ : ByteArray), (⟨#[98, 101, 116, 97]⟩ : ByteArray), (⟨#[49]⟩ : ByteArray), (⟨#[48]⟩ : ByteArray), (⟨#[120, 45, 121]⟩ : ByteArray)] : List ByteArray)) := ⟨_, rfl⟩
   first | replace H := hb1 H (show (cO.f ax Dl Dn OT) = _ from (by rw [UK])) | replace H := hb1 (hb2 H) (show (cO.f ax Dl Dn OT) = _ from (by rw [UK]))
   have UL := am UK
   clear UK
   replace H := Option.bind_eq_some_iff.mp H
   obtain ⟨⟨Qs, Bz, CB⟩, A260, H⟩ := H
   try dsimp only at H
   have A26 := am A260
   clear A260
   obtain ⟨oq, OU⟩ : ∃ y_ : List ByteArray, y_ = (([Qs] : List ByteArray)) := ⟨_, rfl⟩
   replace H : ((fQ.f ax Bz CB 2).bind fun sU => (if sU.1 = true then ((cO.f ax sU.2.1 sU.2.2 (([(⟨#[49]⟩ : ByteArray), (⟨#[50]⟩ : ByteArray), (⟨#[49, 48]⟩ : ByteArray), (⟨#[97]⟩ : ByteArray)] : List ByteArray))).bind fun zQ => (if oq.length < 8796093022208 then (aV.j0 k ax zQ.2.1 zQ.2.2 jQ jl jm (oq ++ [zQ.1])) else (none))) else (aV.j0 k ax sU.2.1 sU.2.2 jQ jl jm oq))) = some (r1, r2, r3, r4, r5, r6) := by first | (rw [OU]; with_reducible exact H) | (have rZ := (Option.bind_some _ _).symm.trans H; rw [OU]; with_reducible exact rZ) | (have rZ := (Option.bind_some _ _).symm.trans H; with_reducible exact rZ) | with_reducible exact H | (rw [OU]; exact H) | exact H
   have UM := am OU
   clear OU
   replace H := Option.bind_eq_some_iff.mp H
   obtain ⟨⟨t381, G7, G8⟩, A270, H⟩ := H
   try dsimp only at H
   have A27 := am A270
   clear A270
   by_cases c28 : t381 = true
   ·subst c28
    rw [if_pos rfl] at H
    obtain ⟨Vd, UN⟩ : ∃ y_ : List ByteArray, y_ = (([(⟨#[49]⟩ : ByteArray), (⟨#[50]⟩ : ByteArray), (⟨#[49, 48]⟩ : ByteArray), (⟨#[97]⟩ : ByteArray)] : List ByteArray)) := ⟨_, rfl⟩
    first | replace H := hb1 H (show (cO.f ax G7 G8 Vd) = _ from (by rw [UN])) | replace H := hb1 (hb2 H) (show (cO.f ax G7 G8 Vd) = _ from (by rw [UN]))
    have Ny384 := am UN
    clear UN
    replace H := Option.bind_eq_some_iff.mp H
    obtain ⟨⟨t387, t388, t389⟩, A290, H⟩ := H
    try dsimp only at H
    have A29 := am A290
    clear A290
    by_cases OC : oq.length < 8796093022208
    ·rw [if_pos OC] at H
     have LMc30 := am OC
     clear OC
     obtain ⟨y390, OV⟩ : ∃ y_ : List ByteArray, y_ = (oq ++ [t387]) := ⟨_, rfl⟩
     replace H : (aV.j0 k ax t388 t389 jQ jl jm y390) = some (r1, r2, r3, r4, r5, r6) := by first | (rw [OV]; with_reducible exact H) | (have rZ := (Option.bind_some _ _).symm.trans H; rw [OV]; with_reducible exact rZ) | (have rZ := (Option.bind_some _ _).symm.trans H; with_reducible exact rZ) | with_reducible exact H | (rw [OV]; exact H) | exact H
     have Ny390 := am OV
     clear OV
     have H' := am H
     clear H
     try go_wp2_with (first | ((with_reducible refine jF (N := 17) rfl ?_); refine Kd.su Kd.string _ 9 ?hg (N := 17) ?hd (xs := ([(⟨#[114, 99]⟩ : ByteArray), (⟨#[98, 101, 116, 97]⟩ : ByteArray), (⟨#[49]⟩ : ByteArray), (⟨#[48]⟩ : ByteArray), (⟨#[120, 45, 121]⟩ : ByteArray)] : List ByteArray)) (inner := [.string (⟨#[114, 99]⟩ : ByteArray), .string (⟨#[98, 101, 116, 97]⟩ : ByteArray), .string (⟨#[49]⟩ : ByteArray), .string (⟨#[48]⟩ : ByteArray), .string (⟨#[120, 45, 121]⟩ : ByteArray)]) (ok := fun _ => True) (okp := fun _ => True) ?hr ?hp (fun _ hk => hk) trivial (Below.refl _ _) (Nat.le_refl _) gB ?_; (case hd => rfl); (case hg => rfl); (case hr => exact oI); (case hp => exact G9); intro v373 w31 Xy hb xH jf; clear xH jf; (first | rw [← UL.out] at Xy | (simp only [Int.reduceToNat] at Xy; rw [← UL.out] at Xy)); replace jR := am (Kd.bQ (zR jR.out) hb); replace jk := am (Kd.bQ (zR jk.out) hb); replace kS := am (Kd.bQ (zR kS.out) hb); have lD := am (Kd.iT Xy (gz (w := w) (g := g) (row := none) vG)); replace dG := am (dI (zB dG.out) hb); replace ah := am (dI (zB ah.out) hb); replace HK := am (kb vG hb); replace HB := am (bK zV hb); replace HI0 := am (aG.below oK hb); clear hb Xy; obtain ⟨Ao33, co33, eo33⟩ := Kd.iK lD.out; subst eo33) | ((with_reducible refine aW (f := 87) rfl ?_); refine dU (some 18) rfl rfl Tryz.func87 dw rfl #[.pointer (some ⟨g, 0, none⟩), .slice Ao33 OT.length co33] rfl lV ?_; (with_reducible refine (cO.calls g ax Dl Dn _ _ OT Qs Bz CB w0 _ ?side1 ?side2 ?side3 ?side4 ?side5 A26.out).mono ?_); (case side1 => exact oK); (case side2 => exact zV); (case side3 => exact zb44); (case side4 => exact (Kd.eG lD.out).2.1); (case side5 => exact lg (aG.own_ne HI0.out lD.out dY)); rintro e w34 ⟨rfl, hi, hb, hk⟩; refine ⟨_, rfl, ?_⟩; replace dG := am (aQ.blk hk (g' := fP) (o := .cells #[.int .i64 0, .int .i64 0, .int .i64 0, .slice none 0 0] 77 (0, 0)) (zB dG.out) jq.out gB); replace jR := am (kz (aG.apart (show aG w0 _ g ax Dl Dn from oK) (zR jR.out) dY) hk); replace jk := am (kz (aG.apart (show aG w0 _ g ax Dl Dn from oK) (zR jk.out) dY) hk); replace kS := am (kz (aG.apart (show aG w0 _ g ax Dl Dn from oK) (zR kS.out) dY) hk); replace ah := am (aQ.blk hk (g' := dR) (o := .cells #[.int .i64 jQ, .int .i64 jl, .int .i64 jm, .slice none 0 0] 77 (0, 0)) (zB ah.out) jr.out gB); replace lD := am (kz (aG.apart (show aG w0 _ g ax Dl Dn from oK) (zR lD.out) dY) hk); replace HK := am (aQ.trans vG hk (.inl rfl)); replace HB := am hb; replace HI0 := am hi; (try clear hb); (try clear hb2); (try clear hk); (try clear hi)) | ((with_reducible refine jF (N := 19) rfl ?_); refine Kd.su Kd.string _ 9 ?hg (N := 19) ?hd (xs := ([Qs] : List ByteArray)) (inner := [.string Qs]) (ok := fun _ => True) (okp := fun _ => True) ?hr ?hp (fun _ hk => hk) trivial (Below.refl _ _) (Nat.le_refl _) gB ?_; (case hd => rfl); (case hg => rfl); (case hr => exact oI); (case hp => exact G9); intro v379 w35 Ve hb xH jf; clear xH jf; (first | rw [← UM.out] at Ve | (simp only [Int.reduceToNat] at Ve; rw [← UM.out] at Ve)); replace jR := am (Kd.bQ (zR jR.out) hb); replace jk := am (Kd.bQ (zR jk.out) hb); replace kS := am (Kd.bQ (zR kS.out) hb); have nV := am (Kd.iT (Kd.vC Ve (Kd.Bv (zR lD.out))) (gz (w := w) (g := g) (row := none) vG)); replace lD := am (Kd.oO (zR lD.out) (Kd.vF Ve) hb); replace dG := am (dI (zB dG.out) hb); replace ah := am (dI (zB ah.out) hb); replace HK := am (kb vG hb); replace HB := am (bK zV hb); replace HI0 := am (aG.below oK hb); clear hb Ve; obtain ⟨Gf, Gg, eo37⟩ := Kd.iK nV.out; subst eo37; have hnb38 := oC.out; have hnc38 := jg.out; have hnb39 := jr.out; have hnc39 := uT.out; have hcz40_0 : w35.cell? ⟨dR, 0, none⟩ = some (.int .i64 jQ) := bc ah.out 0; have hcz40_1 : w35.cell? ⟨dR, 1, none⟩ = some (.int .i64 jl) := bc ah.out 1; have hcz40_2 : w35.cell? ⟨dR, 2, none⟩ = some (.int .i64 jm) := bc ah.out 2; have hcz40_3 : w35.cell? ⟨dR, 3, none⟩ = some (.slice none 0 0) := bc ah.out 3; have hfz40_0 := aX ah.out 0; have hfz40_1 := aX ah.out 1; have hfz40_2 := aX ah.out 2; have hfz40_3 := aX ah.out 3) | ((with_reducible refine aW (f := 86) rfl ?_); refine dU (some 22) rfl rfl Tryz.func86 dw rfl #[.pointer (some ⟨g, 0, none⟩), .int .i64 2] rfl lV ?_; (with_reducible refine (fQ.calls g ax Bz CB 2 true G7 G8 w0 _ ?side1 ?side2 A27.out).mono ?_); (case side1 => exact oK); (case side2 => exact zV); rintro e w41 ⟨rfl, hi, hb, hk⟩; refine ⟨_, rfl, ?_⟩; replace dG := am (aQ.blk hk (g' := fP) (o := .cells #[.int .i64 0, .int .i64 0, .int .i64 0, .slice none 0 0] 77 (0, 0)) Xz jq.out gB); replace jR := am (kz (aG.apart (show aG w0 _ g ax Bz CB from oK) (zR (Kd.gG (Kd.gV (p := ⟨dR, 3, none⟩) (Kd.iQ jR.out ah.out dY) (fun _ hk => hk.2) (.slice Gf oq.length Gg)) (fun _ h_ => h_.1))) dY) hk); replace jk := am (kz (aG.apart (show aG w0 _ g ax Bz CB from oK) (zR (Kd.gG (Kd.gV (p := ⟨dR, 3, none⟩) (Kd.iQ jk.out ah.out dY) (fun _ hk => hk.2) (.slice Gf oq.length Gg)) (fun _ h_ => h_.1))) dY) hk); replace kS := am (kz (aG.apart (show aG w0 _ g ax Bz CB from oK) (zR (Kd.gG (Kd.gV (p := ⟨dR, 3, none⟩) (Kd.iQ kS.out ah.out dY) (fun _ hk => hk.2) (.slice Gf oq.length Gg)) (fun _ h_ => h_.1))) dY) hk); replace lD := am (kz (aG.apart (show aG w0 _ g ax Bz CB from oK) (zR (Kd.gG (Kd.gV (p := ⟨dR, 3, none⟩) (Kd.iQ lD.out ah.out dY) (fun _ hk => hk.2) (.slice Gf oq.length Gg)) (fun _ h_ => h_.1))) dY) hk); replace nV := am (kz (aG.apart (show aG w0 _ g ax Bz CB from oK) (zR (Kd.gG (Kd.gV (p := ⟨dR, 3, none⟩) (Kd.iQ nV.out ah.out dY) (fun _ hk => hk.2) (.slice Gf oq.length Gg)) (fun _ h_ => h_.1))) dY) hk); replace ah := am (aQ.blk hk (g' := dR) (o := .cells #[.int .i64 jQ, .int .i64 jl, .int .i64 jm, .slice Gf oq.length Gg] 77 (0, 0)) zb35 jr.out gB); replace HK := am (aQ.trans vG hk (.inl rfl)); replace HB := am hb; replace HI0 := am hi; (try clear hb); (try clear hb2); (try clear hk); (try clear hi)))
     replace jR := am (Kd.pM jR.out)
     replace jk := am (Kd.pM jk.out)
     replace kS := am (Kd.pM kS.out)
     replace lD := am (Kd.pM lD.out)
     replace nV := am (Kd.pM nV.out)
     replace dG := am (vH dG.out)
     replace ah := am (vH ah.out)
     replace HI0 := am (aG.drew HI0.out)
     replace HK := am (rf HK.out)
     replace HB := am (dQ HB.out)
     refine Ej (n := 9) (S := fun w' => w'.cell? ⟨dR, 0, none⟩ = some (.int .i64 jQ) ∧ w'.cell? ⟨dR, 1, none⟩ = some (.int .i64 jl) ∧ w'.cell? ⟨dR, 2, none⟩ = some (.int .i64 jm) ∧ w'.cell? ⟨dR, 3, none⟩ = some (.slice Gf oq.length Gg)) (ds := [8]) #[false, false, false, false, false, false, false, false, false] dw rfl rfl ⟨(fA ah.out 0).trans rfl, (fA ah.out 1).trans rfl, (fA ah.out 2).trans rfl, (fA ah.out 3).trans rfl⟩ (fun hHeld => ?_); refine um aV.tab5 aV.bits5 (fun uC Qu => ?_)
     generalize w41.drew = w42 at jR jk kS lD nV dG ah HI0 HK HB hHeld ⊢
     refine pz 0 23 ?_
     refine pz 2 25 ?_
     refine BQ (i := 1) (N := some 24) (v := ?_) (a' := ?_) #[true, true, true, false, false, false, false, false, false] rfl rfl (pg uC.out Qu.out dw) (fun _ _ _ h => h) (Or.inl ⟨by rfl, ?_⟩) hHeld ?_ ?_
     rotate_left
     ·rintro w' ⟨s0, s1, s2, s3⟩
      go_simp
      with_reducible rfl
     rotate_left
     ·simp only [Act.put, List.setIfInBounds_toArray, List.set_cons_zero, List.set_cons_succ, jG, jL]
      rfl
     refine vg (i := 3) (N := some 26) #[true, true, true, true, false, false, false, false, false] rfl rfl (lG uC.out dw) dY (fun K hK => ?_)
     refine Kd.yE Kd.string _ 9 ?hg (N := 26) ?hd (xs := ([(⟨#[49]⟩ : ByteArray), (⟨#[50]⟩ : ByteArray), (⟨#[49, 48]⟩ : ByteArray), (⟨#[97]⟩ : ByteArray)] : List ByteArray)) (inner := [.string (⟨#[49]⟩ : ByteArray), .string (⟨#[50]⟩ : ByteArray), .string (⟨#[49, 48]⟩ : ByteArray), .string (⟨#[97]⟩ : ByteArray)]) (ok := fun _ => True) (okp := fun _ => True) ?hr ?hp (fun _ hk => hk) trivial (Below.refl _ _) (Nat.le_refl _) gB ?_; (case hd => rfl); (case hg => rfl); (case hr => exact oI); (case hp => exact G9)
     intro v385 w43 Qv hb xH jf
     clear xH jf
     (first | rw [← Ny384.out] at Qv | (simp only [Int.reduceToNat] at Qv; rw [← Ny384.out] at Qv))
     replace jR := am (Kd.bQ (zR jR.out) hb)
     replace jk := am (Kd.bQ (zR jk.out) hb)
     replace kS := am (Kd.bQ (zR kS.out) hb)
     have Dp := am (Kd.iT (Kd.vC (Kd.vC Qv (Kd.Bv (zR lD.out))) (Kd.Bv (zR nV.out))) (gz (w := w) (g := g) (row := none) vG))
     replace lD := am (Kd.oO (zR lD.out) (Kd.vF Qv) hb)
     replace nV := am (Kd.oO (zR nV.out) (Kd.vF Qv) hb)
     replace dG := am (dI (zB dG.out) hb)
     replace ah := am (dI (zB ah.out) hb)
     replace HK := am (kb vG hb)
     replace HB := am (bK zV hb)
     replace HI0 := am (aG.below oK hb)
     clear hb Qv
     obtain ⟨Ao45, co45, eo45⟩ := Kd.iK Dp.out
     (first | subst eo45 | (injection eo45 with I4 Qw I5; have Qx := I4.symm; have Qy := I5.symm; clear I4 Qw I5; subst Qx; subst Qy))
     refine hK.out _ _ ⟨(fA ah.out 0).trans rfl, (fA ah.out 1).trans rfl, (fA ah.out 2).trans rfl, (fA ah.out 3).trans rfl⟩ (fun hHeld => ?_)
     clear hK K
     refine kM (a' := ?_) ?_ ?_
     rotate_left
     ·show Act.put _ (some 26) _ = _
      simp only [Act.put, List.setIfInBounds_toArray, List.set_cons_zero, List.set_cons_succ, jG, jL]
      rfl
     refine vg (i := 4) (N := some 27) #[true, true, true, true, true, false, false, false, false] rfl rfl (lG uC.out dw) dY (fun K hK => ?_)
     refine wL Tryz.func87 dw rfl #[.pointer (some ⟨g, 0, none⟩), .slice Ao45 Vd.length co45] (by rfl) rfl rfl lV ?_
     with_reducible refine (cO.calls g ax G7 G8 _ _ Vd t387 t388 t389 w0 _ ?side1 ?side2 ?side3 ?side4 ?side5 A29.out).mono ?_
     (case side1 => exact oK)
     (case side2 => exact zV)
     (case side3 => repeat (first | exact (Kd.eG Dp.out).2.2 | (with_reducible refine Kd.rC ?_ _) | (with_reducible refine Kd.rD ?_ _) | (with_reducible refine Kd.uz ?_)))
     (case side4 => exact (Kd.eG Dp.out).2.1)
     (case side5 => exact lg (aG.own_ne HI0.out Dp.out dY))
     rintro e w46 ⟨rfl, hi, hb, hk⟩
     refine ⟨_, rfl, ?_⟩
     replace dG := am (aQ.blk hk (g' := fP) (o := .cells #[.int .i64 0, .int .i64 0, .int .i64 0, .slice none 0 0] 77 (0, 0)) (zB dG.out) jq.out gB)
     replace jR := am (kz (aG.apart (show aG w0 _ g ax G7 G8 from oK) (zR jR.out) dY) hk)
     replace jk := am (kz (aG.apart (show aG w0 _ g ax G7 G8 from oK) (zR jk.out) dY) hk)
     replace kS := am (kz (aG.apart (show aG w0 _ g ax G7 G8 from oK) (zR kS.out) dY) hk)
     replace ah := am (aQ.blk hk (g' := dR) (o := .cells #[.int .i64 jQ, .int .i64 jl, .int .i64 jm, .slice Gf oq.length Gg] 77 (0, 0)) (zB ah.out) jr.out gB)
     replace lD := am (kz (aG.apart (show aG w0 _ g ax G7 G8 from oK) (zR lD.out) dY) hk)
     replace nV := am (kz (aG.apart (show aG w0 _ g ax G7 G8 from oK) (zR nV.out) dY) hk)
     replace Dp := am (kz (aG.apart (show aG w0 _ g ax G7 G8 from oK) (zR Dp.out) dY) hk)
     replace HK := am (aQ.trans vG hk (.inl rfl))
     replace HB := am hb
     replace HI0 := am hi
     (try clear hb)
     (try clear hb2)
     (try clear hk)
     (try clear hi)
     refine hK.out _ _ ⟨(fA ah.out 0).trans rfl, (fA ah.out 1).trans rfl, (fA ah.out 2).trans rfl, (fA ah.out 3).trans rfl⟩ (fun hHeld => ?_)
     clear hK K
     refine kM (a' := ?_) ?_ ?_
     rotate_left
     ·show Act.put _ (some 27) _ = _
      simp only [Act.put, List.setIfInBounds_toArray, List.set_cons_zero, List.set_cons_succ, jG, jL]
      rfl
     refine vg (i := 5) (N := some 28) #[true, true, true, true, true, true, false, false, false] rfl rfl (lG uC.out dw) dY (fun K hK => ?_)
     refine YA (w1 := ?_) (v := ?_) (by rfl) rfl ?_ ?_
     rotate_left 2
     ·go_simp
      constructor
      ·rfl
      ·rfl
     refine hK.out _ _ ⟨(fA (pF ah.out _) 0).trans rfl, (fA (pF ah.out _) 1).trans rfl, (fA (pF ah.out _) 2).trans rfl, (fA (pF ah.out _) 3).trans rfl⟩ (fun hHeld => ?_)
     clear hK K
     refine kM (a' := ?_) ?_ ?_
     rotate_left
     ·show Act.put _ (some 28) _ = _
      simp only [Act.put, List.setIfInBounds_toArray, List.set_cons_zero, List.set_cons_succ, jG, jL]
      rfl
     refine vg (i := 6) (N := some 29) #[true, true, true, true, true, true, true, false, false] rfl rfl (lG uC.out dw) dY (fun K hK => ?_)
     refine Kd.BR Kd.string w.heap.size (by rfl) (.tmp 24) (.tmp 28) 36 9 (.string ⟨#[]⟩) 16 rfl Tryz.underlying36 info9 rfl dY mY (.slice Gf oq.length Gg) oq t387 [.string t387] (fun k_ => some k_ ≠ (.slice Ao33 OT.length co33 : Value).ownBlock ∧ some k_ ≠ (.slice Ao45 Vd.length co45 : Value).ownBlock) (fun _ => False) rfl rfl ?aP (fun _ hk => hk.elim) ?aF ?aO (Below.refl _ _) ?aS ?aL ?_
     (case aP => exact rfl)
     (case aF => exact (fun k_ hk => ⟨Kd.fresh' (Kd.Bv (zR lD.out)) k_ hk, Kd.fresh' (Kd.Bv (zR Dp.out)) k_ hk⟩))
     (case aO => (with_reducible repeat (first | apply Kd.MG | apply Kd.MH | apply Kd.pM)); exact Kd.gG nV.out (fun _ hk => ⟨hk.1.2, hk.2⟩))
     (case aS => exact (gz (w := w) (g := g) (row := none) vG))
     (case aL => have := LMc30.out; omega)
     intro v391 w47 ho hb hg hat
     rw [← Ny390.out] at ho
     replace dG := am (nz (g := fP) (o := .cells #[.int .i64 0, .int .i64 0, .int .i64 0, .slice none 0 0] 77 (0, 0)) (zB dG.out) hg (Kd.Bl nV.out dG.out dY))
     replace jR := am (Kd.uU (zR jR.out) (Kd.uV (zR nV.out)) dY hg)
     replace jk := am (Kd.uU (zR jk.out) (Kd.uV (zR nV.out)) dY hg)
     replace kS := am (Kd.uU (zR kS.out) (Kd.uV (zR nV.out)) dY hg)
     replace ah := am (nz (g := dR) (o := .cells #[.int .i64 jQ, .int .i64 jl, .int .i64 jm, .slice Gf oq.length Gg] 77 (0, 0)) (zB ah.out) hg (Kd.Bl nV.out ah.out dY))
     replace lD := am (Kd.H6 (ok := (fun k_ => some k_ ≠ (.slice Ao45 Vd.length co45 : Value).ownBlock)) (by (with_reducible repeat (first | apply Kd.MG | apply Kd.MH | apply Kd.pM)); exact Kd.gG lD.out (fun _ hk => ⟨hk.2, hk.1.2⟩)) hg hat)
     replace Dp := am (Kd.H6 (ok := (fun k_ => some k_ ≠ (.slice Ao33 OT.length co33 : Value).ownBlock)) (by (with_reducible repeat (first | apply Kd.MG | apply Kd.MH | apply Kd.pM)); exact Kd.gG Dp.out (fun _ hk => ⟨hk.1.2, hk.2⟩)) hg hat)
     replace HB := am (yF zV HL.out hb)
     replace HI0 := am (aG.grown oK hg (aG.own_ne HI0.out nV.out dY))
     replace HK := am (aQ.trans vG (aQ.Dq hg g) (Kd.H7 nV.out))
     have HO392 := am ho
     clear nV ho hb hg hat
     obtain ⟨Ao48, YB, YC⟩ := Kd.iK HO392.out
     (first | subst YC | (injection YC with I4 Qw I5; have Qx := I4.symm; have Qy := I5.symm; clear I4 Qw I5; subst Qx; subst Qy))
     refine hK.out _ _ ⟨(fA ah.out 0).trans rfl, (fA ah.out 1).trans rfl, (fA ah.out 2).trans rfl, (fA ah.out 3).trans rfl⟩ (fun hHeld => ?_)
     clear hK K
     refine kM (a' := ?_) ?_ ?_
     rotate_left
     ·show Act.put _ (some 29) _ = _
      simp only [Act.put, List.setIfInBounds_toArray, List.set_cons_zero, List.set_cons_succ, jG, jL]
      rfl
     refine pz 7 30 ?_
     refine last_ (i := 8) (N := none) #[true, true, true, true, true, true, true, true, true] rfl rfl (lG uC.out dw) dY (fun K hK => ?_)
     have hs49 : w47.cell? ⟨dR, 3, none⟩ = some (.slice Gf oq.length Gg) := bc ah.out 3
     have hfs49 := aX ah.out 3
     have hns49_0 := jg.out
     have hms49_0 := oC.out
     refine UO (w1 := ?_) (by rfl) rfl ?_ ?_
     rotate_left
     ·go_simp
      rfl
     refine hK.out _ _ ?_
     clear hK K
     refine KE (Ae uC.out dw) ?_
     try go_wp2
     go_meet
     case rel => exact ⟨_, (t388), (t389), (y390), (.slice Ao48 y390.length YB), H', ⟨MI⟩, ⟨(zR (Kd.gG (Kd.gV (p := ⟨dR, 3, none⟩) (Kd.iQ HO392.out ah.out dY) (fun _ hk => hk.2) (.slice Ao48 y390.length YB)) (fun _ hk => trivial)))⟩, ⟨Xz⟩, ⟨(by (with_reducible repeat (first | refine qg ?_ _ | refine qh ?_ | refine qi ?_ _)); refine iU (cs := #[.int .i64 jQ, .int .i64 jl, .int .i64 jm, .slice Gf oq.length Gg]) ?_ 3 _ rfl; (with_reducible repeat (first | refine qg ?_ _ | refine qh ?_ | refine qi ?_ _)); exact ah.out)⟩, ⟨oK⟩, ⟨vG⟩, ⟨zV⟩⟩
    ·rw [if_neg OC] at H
     exact absurd H gB
   ·replace c28 := Bool.eq_false_iff.mpr c28
    subst c28
    rw [if_neg (show ¬ (false = true) by decide)] at H
    have H' := am H
    clear H
    go_wp2_with (first | ((with_reducible refine jF (N := 17) rfl ?_); refine Kd.su Kd.string _ 9 ?hg (N := 17) ?hd (xs := ([(⟨#[114, 99]⟩ : ByteArray), (⟨#[98, 101, 116, 97]⟩ : ByteArray), (⟨#[49]⟩ : ByteArray), (⟨#[48]⟩ : ByteArray), (⟨#[120, 45, 121]⟩ : ByteArray)] : List ByteArray)) (inner := [.string (⟨#[114, 99]⟩ : ByteArray), .string (⟨#[98, 101, 116, 97]⟩ : ByteArray), .string (⟨#[49]⟩ : ByteArray), .string (⟨#[48]⟩ : ByteArray), .string (⟨#[120, 45, 121]⟩ : ByteArray)]) (ok := fun _ => True) (okp := fun _ => True) ?hr ?hp (fun _ hk => hk) trivial (Below.refl _ _) (Nat.le_refl _) gB ?_; (case hd => rfl); (case hg => rfl); (case hr => exact oI); (case hp => exact G9); intro v373 w50 YD hb xH jf; clear xH jf; (first | rw [← UL.out] at YD | (simp only [Int.reduceToNat] at YD; rw [← UL.out] at YD)); replace jR := am (Kd.bQ (zR jR.out) hb); replace jk := am (Kd.bQ (zR jk.out) hb); replace kS := am (Kd.bQ (zR kS.out) hb); have lD := am (Kd.iT YD (gz (w := w) (g := g) (row := none) vG)); replace dG := am (dI (zB dG.out) hb); replace ah := am (dI (zB ah.out) hb); replace HK := am (kb vG hb); replace HB := am (bK zV hb); replace HI0 := am (aG.below oK hb); clear hb YD; obtain ⟨Ao52, co52, eo52⟩ := Kd.iK lD.out; subst eo52) | ((with_reducible refine aW (f := 87) rfl ?_); refine dU (some 18) rfl rfl Tryz.func87 dw rfl #[.pointer (some ⟨g, 0, none⟩), .slice Ao52 OT.length co52] rfl lV ?_; (with_reducible refine (cO.calls g ax Dl Dn _ _ OT Qs Bz CB w0 _ ?side1 ?side2 ?side3 ?side4 ?side5 A26.out).mono ?_); (case side1 => exact oK); (case side2 => exact zV); (case side3 => exact zb44); (case side4 => exact (Kd.eG lD.out).2.1); (case side5 => exact lg (aG.own_ne HI0.out lD.out dY)); rintro e w53 ⟨rfl, hi, hb, hk⟩; refine ⟨_, rfl, ?_⟩; replace dG := am (aQ.blk hk (g' := fP) (o := .cells #[.int .i64 0, .int .i64 0, .int .i64 0, .slice none 0 0] 77 (0, 0)) (zB dG.out) jq.out gB); replace jR := am (kz (aG.apart (show aG w0 _ g ax Dl Dn from oK) (zR jR.out) dY) hk); replace jk := am (kz (aG.apart (show aG w0 _ g ax Dl Dn from oK) (zR jk.out) dY) hk); replace kS := am (kz (aG.apart (show aG w0 _ g ax Dl Dn from oK) (zR kS.out) dY) hk); replace ah := am (aQ.blk hk (g' := dR) (o := .cells #[.int .i64 jQ, .int .i64 jl, .int .i64 jm, .slice none 0 0] 77 (0, 0)) (zB ah.out) jr.out gB); replace lD := am (kz (aG.apart (show aG w0 _ g ax Dl Dn from oK) (zR lD.out) dY) hk); replace HK := am (aQ.trans vG hk (.inl rfl)); replace HB := am hb; replace HI0 := am hi; (try clear hb); (try clear hb2); (try clear hk); (try clear hi)) | ((with_reducible refine jF (N := 19) rfl ?_); refine Kd.su Kd.string _ 9 ?hg (N := 19) ?hd (xs := ([Qs] : List ByteArray)) (inner := [.string Qs]) (ok := fun _ => True) (okp := fun _ => True) ?hr ?hp (fun _ hk => hk) trivial (Below.refl _ _) (Nat.le_refl _) gB ?_; (case hd => rfl); (case hg => rfl); (case hr => exact oI); (case hp => exact G9); intro v379 w54 Vf hb xH jf; clear xH jf; (first | rw [← UM.out] at Vf | (simp only [Int.reduceToNat] at Vf; rw [← UM.out] at Vf)); replace jR := am (Kd.bQ (zR jR.out) hb); replace jk := am (Kd.bQ (zR jk.out) hb); replace kS := am (Kd.bQ (zR kS.out) hb); have nV := am (Kd.iT (Kd.vC Vf (Kd.Bv (zR lD.out))) (gz (w := w) (g := g) (row := none) vG)); replace lD := am (Kd.oO (zR lD.out) (Kd.vF Vf) hb); replace dG := am (dI (zB dG.out) hb); replace ah := am (dI (zB ah.out) hb); replace HK := am (kb vG hb); replace HB := am (bK zV hb); replace HI0 := am (aG.below oK hb); clear hb Vf; obtain ⟨Qz, RD, eo56⟩ := Kd.iK nV.out; subst eo56; have hnb57 := oC.out; have hnc57 := jg.out; have hnb58 := jr.out; have hnc58 := uT.out; have hcz59_0 : w54.cell? ⟨dR, 0, none⟩ = some (.int .i64 jQ) := bc ah.out 0; have hcz59_1 : w54.cell? ⟨dR, 1, none⟩ = some (.int .i64 jl) := bc ah.out 1; have hcz59_2 : w54.cell? ⟨dR, 2, none⟩ = some (.int .i64 jm) := bc ah.out 2; have hcz59_3 : w54.cell? ⟨dR, 3, none⟩ = some (.slice none 0 0) := bc ah.out 3; have hfz59_0 := aX ah.out 0; have hfz59_1 := aX ah.out 1; have hfz59_2 := aX ah.out 2; have hfz59_3 := aX ah.out 3) | ((with_reducible refine aW (f := 86) rfl ?_); refine dU (some 22) rfl rfl Tryz.func86 dw rfl #[.pointer (some ⟨g, 0, none⟩), .int .i64 2] rfl lV ?_; (with_reducible refine (fQ.calls g ax Bz CB 2 false G7 G8 w0 _ ?side1 ?side2 A27.out).mono ?_); (case side1 => exact oK); (case side2 => exact zV); rintro e w60 ⟨rfl, hi, hb, hk⟩; refine ⟨_, rfl, ?_⟩; replace dG := am (aQ.blk hk (g' := fP) (o := .cells #[.int .i64 0, .int .i64 0, .int .i64 0, .slice none 0 0] 77 (0, 0)) Xz jq.out gB); replace jR := am (kz (aG.apart (show aG w0 _ g ax Bz CB from oK) (zR (Kd.gG (Kd.gV (p := ⟨dR, 3, none⟩) (Kd.iQ jR.out ah.out dY) (fun _ hk => hk.2) (.slice Qz oq.length RD)) (fun _ h_ => h_.1))) dY) hk); replace jk := am (kz (aG.apart (show aG w0 _ g ax Bz CB from oK) (zR (Kd.gG (Kd.gV (p := ⟨dR, 3, none⟩) (Kd.iQ jk.out ah.out dY) (fun _ hk => hk.2) (.slice Qz oq.length RD)) (fun _ h_ => h_.1))) dY) hk); replace kS := am (kz (aG.apart (show aG w0 _ g ax Bz CB from oK) (zR (Kd.gG (Kd.gV (p := ⟨dR, 3, none⟩) (Kd.iQ kS.out ah.out dY) (fun _ hk => hk.2) (.slice Qz oq.length RD)) (fun _ h_ => h_.1))) dY) hk); replace lD := am (kz (aG.apart (show aG w0 _ g ax Bz CB from oK) (zR (Kd.gG (Kd.gV (p := ⟨dR, 3, none⟩) (Kd.iQ lD.out ah.out dY) (fun _ hk => hk.2) (.slice Qz oq.length RD)) (fun _ h_ => h_.1))) dY) hk); replace nV := am (kz (aG.apart (show aG w0 _ g ax Bz CB from oK) (zR (Kd.gG (Kd.gV (p := ⟨dR, 3, none⟩) (Kd.iQ nV.out ah.out dY) (fun _ hk => hk.2) (.slice Qz oq.length RD)) (fun _ h_ => h_.1))) dY) hk); replace ah := am (aQ.blk hk (g' := dR) (o := .cells #[.int .i64 jQ, .int .i64 jl, .int .i64 jm, .slice Qz oq.length RD] 77 (0, 0)) zb35 jr.out gB); replace HK := am (aQ.trans vG hk (.inl rfl)); replace HB := am hb; replace HI0 := am hi; (try clear hb); (try clear hb2); (try clear hk); (try clear hi)))
    go_meet
    case rel => exact ⟨_, (G7), (G8), (oq), (.slice Qz oq.length RD), H', ⟨MI⟩, ⟨(zR (Kd.gG nV.out (fun _ hk => trivial)))⟩, ⟨(zB dG.out)⟩, ⟨(zB ah.out)⟩, ⟨oK⟩, ⟨vG⟩, ⟨zV⟩⟩
  ·replace c25 := Bool.eq_false_iff.mpr c25
   subst c25
   rw [if_neg (show ¬ (false = true) by decide)] at H
   have H' := am H
   clear H
   go_wp2
   go_meet
   case rel => exact ⟨_, (Dl), (Dn), (([] : List ByteArray)), (.slice none 0 0), H', ⟨MI⟩, ⟨(by first | exact Kd.R_nil _ _ _ _ _ | exact Kd.N_nil _ _ _ _ _ | exact Kd.V_nil _ _ _ _ _ | exact Kd.Q_nil _ _ _ _ _ | exact Kd.S_nil _ _ _ _ _)⟩, ⟨(zB dG.out)⟩, ⟨(zB ah.out)⟩, ⟨oK⟩, ⟨vG⟩, ⟨zV⟩⟩
 case rest =>
  clear HC6
  try clear c1
  try clear c2
  try clear p2
  try clear c3
  try clear c5
  try clear c8
  try clear c10
  try clear c13
  try clear c21
  try clear c22
  try clear c25
  try clear c28
  try clear OC
  try clear c38
  try clear c39
  try clear c57
  try clear c58
  try clear UG
  try clear UH
  try clear hcz23_2
  try clear hcz23_3
  try clear hcz40_0
  try clear hcz40_1
  try clear hcz40_2
  try clear hcz40_3
  try clear hcz59_0
  try clear hcz59_1
  try clear hcz59_2
  try clear hcz59_3
  try clear UI
  try clear UJ
  try clear hfz23_2
  try clear hfz23_3
  try clear hfz40_0
  try clear hfz40_1
  try clear hfz40_2
  try clear hfz40_3
  try clear hfz59_0
  try clear hfz59_1
  try clear hfz59_2
  try clear hfz59_3
  obtain ⟨kq, ou, oz, oD, kN, HA, HJ5, dW, dG, ah, HI0, HK, HB⟩ := hcut
  cases kq with
  | zero => exact absurd HA.out (by simp [aV.j0])
  | succ kj5 =>
   have H := HA.out
   clear HA
   simp only [aV.j0] at H
   replace H := Option.bind_eq_some_iff.mp H
   obtain ⟨⟨xJ, vk, vz⟩, A610, H⟩ := H
   try dsimp only at H
   have A61 := am A610
   clear A610
   by_cases c62 : xJ = 0
   ·rw [if_pos c62] at H
    have c62b0 : (xJ == 0) = true := beq_iff_eq.mpr c62
    have c62b1 : (xJ != 0) = false := bne_eq_false_iff_eq.mpr c62
    clear c62
    obtain ⟨y396, UQ⟩ : ∃ y_ : List Int, y_ = (([(-1), 999999999, 1000000000] : List Int)) := ⟨_, rfl⟩
    first | replace H := hb1 H (show (di.f ax vk vz y396) = _ from (by rw [UQ])) | replace H := hb1 (hb2 H) (show (di.f ax vk vz y396) = _ from (by rw [UQ]))
    have Ny396 := am UQ
    clear UQ
    replace H := Option.bind_eq_some_iff.mp H
    obtain ⟨⟨Vg, t400, t401⟩, A630, H⟩ := H
    try dsimp only at H
    have A63 := am A630
    clear A630
    simp only [Option.some.injEq, Prod.mk.injEq] at H
    obtain ⟨rfl, rfl, rfl, rfl, rfl, rfl⟩ := H
    go_wp2_with (first | ((with_reducible refine aW (f := 88) rfl ?_); refine dU (some 32) rfl rfl Tryz.func88 dw rfl #[.pointer (some ⟨g, 0, none⟩), .int .i64 24] rfl lV ?_; (with_reducible refine (az.calls g ax ou oz 24 xJ vk vz w0 _ ?side1 ?side2 A61.out).mono ?_); (case side1 => exact oK); (case side2 => exact zV); rintro e rO ⟨rfl, hi, hb, hk⟩; refine ⟨_, rfl, ?_⟩; replace dW := am (kz (aG.apart (show aG w0 _ g ax ou oz from oK) (zR dW.out) dY) hk); replace dG := am (aQ.blk hk (g' := fP) (o := .cells #[.int .i64 0, .int .i64 0, .int .i64 0, .slice none 0 0] 77 (0, 0)) (zB dG.out) jq.out gB); replace ah := am (aQ.blk hk (g' := dR) (o := .cells #[.int .i64 jQ, .int .i64 jl, .int .i64 jm, kN] 77 (0, 0)) (zB ah.out) jr.out gB); replace HK := am (aQ.trans vG hk (.inl rfl)); replace HB := am hb; replace HI0 := am hi; (try clear hb); (try clear hb2); (try clear hk); (try clear hi)) | ((with_reducible refine jF (N := 36) rfl ?_); refine Kd.su (Kd.int .i64) _ 3 ?hg (N := 36) ?hd (xs := ([(-1), 999999999, 1000000000] : List Int)) (inner := [.int .i64 (-1), .int .i64 999999999, .int .i64 1000000000]) (ok := fun _ => True) (okp := fun _ => True) ?hr ?hp (fun _ hk => hk) trivial (Below.refl _ _) (Nat.le_refl _) gB ?_; (case hd => rfl); (case hg => rfl); (case hr => exact oI); (case hp => exact Vb); intro v397 w65 YE hb xH jf; clear xH jf; (first | rw [← Ny396.out] at YE | (simp only [Int.reduceToNat] at YE; rw [← Ny396.out] at YE)); replace dW := am (Kd.bQ (zR dW.out) hb); have KF := am (Kd.iT YE (gz (w := w) (g := g) (row := none) vG)); replace dG := am (dI (zB dG.out) hb); replace ah := am (dI (zB ah.out) hb); replace HK := am (kb vG hb); replace HB := am (bK zV hb); replace HI0 := am (aG.below oK hb); clear hb YE; obtain ⟨Ao67, co67, eo67⟩ := Kd.iK KF.out; subst eo67) | ((with_reducible refine aW (f := 138) rfl ?_); refine dU (some 37) rfl rfl Tryz.func138 dw rfl #[.pointer (some ⟨g, 0, none⟩), .slice Ao67 y396.length co67] rfl lV ?_; (with_reducible refine (di.calls g ax vk vz _ _ y396 Vg t400 t401 w0 _ ?side1 ?side2 ?side3 ?side4 ?side5 A63.out).mono ?_); (case side1 => exact oK); (case side2 => exact zV); (case side3 => repeat (first | exact (Kd.eG KF.out).2.2 | (with_reducible refine Kd.rC ?_ _) | (with_reducible refine Kd.rD ?_ _) | (with_reducible refine Kd.uz ?_))); (case side4 => exact (Kd.eG KF.out).2.1); (case side5 => exact lg (aG.own_ne HI0.out KF.out dY)); rintro e w68 ⟨rfl, hi, hb, hk⟩; refine ⟨_, rfl, ?_⟩; replace dW := am (kz (aG.apart (show aG w0 _ g ax vk vz from oK) (zR dW.out) dY) hk); replace dG := am (aQ.blk hk (g' := fP) (o := .cells #[.int .i64 0, .int .i64 0, .int .i64 0, .slice none 0 0] 77 (0, 0)) (zB dG.out) jq.out gB); replace ah := am (aQ.blk hk (g' := dR) (o := .cells #[.int .i64 jQ, .int .i64 jl, .int .i64 jm, kN] 77 (0, 0)) (zB ah.out) jr.out gB); replace KF := am (kz (aG.apart (show aG w0 _ g ax vk vz from oK) (zR KF.out) dY) hk); replace HK := am (aQ.trans vG hk (.inl rfl)); replace HB := am hb; replace HI0 := am hi; (try clear hb); (try clear hb2); (try clear hk); (try clear hi); have hnb69 := oC.out; have hnc69 := jg.out; have hnb70 := jr.out; have hnc70 := uT.out; have hcz71_0 : w68.cell? ⟨dR, 0, none⟩ = some (.int .i64 jQ) := bc ah.out 0; have hcz71_1 : w68.cell? ⟨dR, 1, none⟩ = some (.int .i64 jl) := bc ah.out 1; have hcz71_2 : w68.cell? ⟨dR, 2, none⟩ = some (.int .i64 jm) := bc ah.out 2; have hcz71_3 : w68.cell? ⟨dR, 3, none⟩ = some (kN) := bc ah.out 3; have hfz71_0 := aX ah.out 0; have hfz71_1 := aX ah.out 1; have hfz71_2 := aX ah.out 2; have hfz71_3 := aX ah.out 3; have hnb72 := jq.out; have hnc72 := yD.out; have hcz73_0 : w68.cell? ⟨fP, 0, none⟩ = some (.int .i64 0) := bc dG.out 0; have hcz73_1 : w68.cell? ⟨fP, 1, none⟩ = some (.int .i64 0) := bc dG.out 1; have hcz73_2 : w68.cell? ⟨fP, 2, none⟩ = some (.int .i64 0) := bc dG.out 2; have hcz73_3 : w68.cell? ⟨fP, 3, none⟩ = some (.slice none 0 0) := bc dG.out 3; have hfz73_0 := aX dG.out 0; have hfz73_1 := aX dG.out 1; have hfz73_2 := aX dG.out 2; have hfz73_3 := aX dG.out 3; obtain ⟨Ao74, co74, eo74⟩ := Kd.iK dW.out; subst eo74))
    refine bodyPost_ret (results_cell_row rfl _ _ fP 77 #[.int .i64 jQ, .int .i64 Vg, .int .i64 jm, .slice Ao74 oD.length co74] (0, 0) _ rfl (by (with_reducible repeat (first | refine qg ?_ _ | refine qh ?_ | refine qi ?_ _)); refine iU (cs := #[.int .i64 jQ, .int .i64 Vg, .int .i64 jm, .slice none 0 0]) ?_ 3 _ rfl; (with_reducible repeat (first | refine qg ?_ _ | refine qh ?_ | refine qi ?_ _)); refine iU (cs := #[.int .i64 jQ, .int .i64 Vg, .int .i64 0, .slice none 0 0]) ?_ 2 _ rfl; (with_reducible repeat (first | refine qg ?_ _ | refine qh ?_ | refine qi ?_ _)); refine iU (cs := #[.int .i64 jQ, .int .i64 0, .int .i64 0, .slice none 0 0]) ?_ 1 _ rfl; (with_reducible repeat (first | refine qg ?_ _ | refine qh ?_ | refine qi ?_ _)); refine iU (cs := #[.int .i64 0, .int .i64 0, .int .i64 0, .slice none 0 0]) ?_ 0 _ rfl; (with_reducible repeat (first | refine qg ?_ _ | refine qh ?_ | refine qi ?_ _)); refine oh ?_ jg.out _; (with_reducible repeat (first | refine qg ?_ _ | refine qh ?_ | refine qi ?_ _)); exact dG.out) Tryz.underlying77 rfl dw) rfl ?_
    exact ⟨_, pY, (zR (Kd.gG (Kd.gV (p := ⟨fP, 3, none⟩) (Kd.gV (p := ⟨fP, 2, none⟩) (Kd.gV (p := ⟨fP, 1, none⟩) (Kd.gV (p := ⟨fP, 0, none⟩) (Kd.gV (p := ⟨dR, 1, none⟩) (Kd.iQ (Kd.iQ dW.out ah.out dY) dG.out dY) (fun _ hk => hk.1.2) (.int .i64 Vg)) (fun _ hk => hk.2) (.int .i64 jQ)) (fun _ hk => hk.2) (.int .i64 Vg)) (fun _ hk => hk.2) (.int .i64 jm)) (fun _ hk => hk.2) (.slice Ao74 oD.length co74)) (fun _ hk => trivial))), oK, zV, vG⟩
   ·rw [if_neg c62] at H
    have c62b0 : (xJ == 0) = false := beq_eq_false_iff_ne.mpr c62
    have c62b1 : (xJ != 0) = true := bne_iff_ne.mpr c62
    by_cases c75 : xJ = 1
    ·rw [if_pos c75] at H
     have c75b0 : (xJ == 1) = true := beq_iff_eq.mpr c75
     have c75b1 : (xJ != 1) = false := bne_eq_false_iff_eq.mpr c75
     clear c75
     obtain ⟨YF, UR⟩ : ∃ y_ : List ByteArray, y_ = (([(⟨#[]⟩ : ByteArray), (⟨#[48, 49]⟩ : ByteArray), (⟨#[97, 95, 98]⟩ : ByteArray), (⟨#[49, 48, 48, 48, 48, 48, 48, 48, 48, 48]⟩ : ByteArray), (⟨#[97, 98, 99, 100, 101, 102, 103, 104, 105, 106, 107, 108, 109, 110, 111, 112, 113, 114, 115, 116]⟩ : ByteArray), (⟨#[97, 98, 99, 100, 101, 102, 103, 104, 105, 106, 107, 108, 109, 110, 111, 112, 113, 114, 115, 116, 117]⟩ : ByteArray)] : List ByteArray)) := ⟨_, rfl⟩
     first | replace H := hb1 H (show (cO.f ax vk vz YF) = _ from (by rw [UR])) | replace H := hb1 (hb2 H) (show (cO.f ax vk vz YF) = _ from (by rw [UR]))
     have Ny402 := am UR
     clear UR
     replace H := Option.bind_eq_some_iff.mp H
     obtain ⟨⟨t405, t406, t407⟩, A760, H⟩ := H
     try dsimp only at H
     have A76 := am A760
     clear A760
     by_cases c77 : oD.length < 8796093022208
     ·rw [if_pos c77] at H
      have LMc77 := am c77
      clear c77
      obtain ⟨y408, OW⟩ : ∃ y_ : List ByteArray, y_ = (oD ++ [t405]) := ⟨_, rfl⟩
      replace H : (some (jQ, jl, jm, y408, t406, t407)) = some (r1, r2, r3, r4, r5, r6) := by first | (rw [OW]; with_reducible exact H) | (have rZ := (Option.bind_some _ _).symm.trans H; rw [OW]; with_reducible exact rZ) | (have rZ := (Option.bind_some _ _).symm.trans H; with_reducible exact rZ) | with_reducible exact H | (rw [OW]; exact H) | exact H
      have Ny408 := am OW
      clear OW
      simp only [Option.some.injEq, Prod.mk.injEq] at H
      obtain ⟨rfl, rfl, rfl, rfl, rfl, rfl⟩ := H
      try go_wp2_with (first | ((with_reducible refine aW (f := 88) rfl ?_); refine dU (some 32) rfl rfl Tryz.func88 dw rfl #[.pointer (some ⟨g, 0, none⟩), .int .i64 24] rfl lV ?_; (with_reducible refine (az.calls g ax ou oz 24 xJ vk vz w0 _ ?side1 ?side2 A61.out).mono ?_); (case side1 => exact oK); (case side2 => exact zV); rintro e w78 ⟨rfl, hi, hb, hk⟩; refine ⟨_, rfl, ?_⟩; replace dW := am (kz (aG.apart (show aG w0 _ g ax ou oz from oK) (zR dW.out) dY) hk); replace dG := am (aQ.blk hk (g' := fP) (o := .cells #[.int .i64 0, .int .i64 0, .int .i64 0, .slice none 0 0] 77 (0, 0)) (zB dG.out) jq.out gB); replace ah := am (aQ.blk hk (g' := dR) (o := .cells #[.int .i64 jQ, .int .i64 jl, .int .i64 jm, kN] 77 (0, 0)) (zB ah.out) jr.out gB); replace HK := am (aQ.trans vG hk (.inl rfl)); replace HB := am hb; replace HI0 := am hi; (try clear hb); (try clear hb2); (try clear hk); (try clear hi)))
      replace dW := am (Kd.pM dW.out)
      replace dG := am (vH dG.out)
      replace ah := am (vH ah.out)
      replace HI0 := am (aG.drew HI0.out)
      replace HK := am (rf HK.out)
      replace HB := am (dQ HB.out)
      refine Ej (n := 9) (S := fun w' => w'.cell? ⟨dR, 0, none⟩ = some (.int .i64 jQ) ∧ w'.cell? ⟨dR, 1, none⟩ = some (.int .i64 jl) ∧ w'.cell? ⟨dR, 2, none⟩ = some (.int .i64 jm) ∧ w'.cell? ⟨dR, 3, none⟩ = some (kN)) (ds := [8]) #[false, false, false, false, false, false, false, false, false] dw rfl rfl ⟨(fA ah.out 0).trans rfl, (fA ah.out 1).trans rfl, (fA ah.out 2).trans rfl, (fA ah.out 3).trans rfl⟩ (fun hHeld => ?_); refine um aV.tab10 aV.bits10 (fun uC Qu => ?_)
      generalize w78.drew = w79 at dW dG ah HI0 HK HB hHeld ⊢
      refine pz 0 41 ?_
      refine pz 2 43 ?_
      refine BQ (i := 1) (N := some 42) (v := ?_) (a' := ?_) #[true, true, true, false, false, false, false, false, false] rfl rfl (pg uC.out Qu.out dw) (fun _ _ _ h => h) (Or.inl ⟨by rfl, ?_⟩) hHeld ?_ ?_
      rotate_left
      ·rintro w' ⟨s0, s1, s2, s3⟩
       go_simp
       with_reducible rfl
      rotate_left
      ·simp only [Act.put, List.setIfInBounds_toArray, List.set_cons_zero, List.set_cons_succ, jG, jL]
       rfl
      refine vg (i := 3) (N := some 44) #[true, true, true, true, false, false, false, false, false] rfl rfl (lG uC.out dw) dY (fun K hK => ?_)
      refine Kd.yE Kd.string _ 9 ?hg (N := 44) ?hd (xs := ([(⟨#[]⟩ : ByteArray), (⟨#[48, 49]⟩ : ByteArray), (⟨#[97, 95, 98]⟩ : ByteArray), (⟨#[49, 48, 48, 48, 48, 48, 48, 48, 48, 48]⟩ : ByteArray), (⟨#[97, 98, 99, 100, 101, 102, 103, 104, 105, 106, 107, 108, 109, 110, 111, 112, 113, 114, 115, 116]⟩ : ByteArray), (⟨#[97, 98, 99, 100, 101, 102, 103, 104, 105, 106, 107, 108, 109, 110, 111, 112, 113, 114, 115, 116, 117]⟩ : ByteArray)] : List ByteArray)) (inner := [.string (⟨#[]⟩ : ByteArray), .string (⟨#[48, 49]⟩ : ByteArray), .string (⟨#[97, 95, 98]⟩ : ByteArray), .string (⟨#[49, 48, 48, 48, 48, 48, 48, 48, 48, 48]⟩ : ByteArray), .string (⟨#[97, 98, 99, 100, 101, 102, 103, 104, 105, 106, 107, 108, 109, 110, 111, 112, 113, 114, 115, 116]⟩ : ByteArray), .string (⟨#[97, 98, 99, 100, 101, 102, 103, 104, 105, 106, 107, 108, 109, 110, 111, 112, 113, 114, 115, 116, 117]⟩ : ByteArray)]) (ok := fun _ => True) (okp := fun _ => True) ?hr ?hp (fun _ hk => hk) trivial (Below.refl _ _) (Nat.le_refl _) gB ?_; (case hd => rfl); (case hg => rfl); (case hr => exact oI); (case hp => exact G9)
      intro v403 w80 Vh hb xH jf
      clear xH jf
      (first | rw [← Ny402.out] at Vh | (simp only [Int.reduceToNat] at Vh; rw [← Ny402.out] at Vh))
      have Dt := am (Kd.iT (Kd.vC Vh (Kd.Bv (zR dW.out))) (gz (w := w) (g := g) (row := none) vG))
      replace dW := am (Kd.oO (zR dW.out) (Kd.vF Vh) hb)
      replace dG := am (dI (zB dG.out) hb)
      replace ah := am (dI (zB ah.out) hb)
      replace HK := am (kb vG hb)
      replace HB := am (bK zV hb)
      replace HI0 := am (aG.below oK hb)
      clear hb Vh
      obtain ⟨Ao82, co82, eo82⟩ := Kd.iK Dt.out
      (first | subst eo82 | (injection eo82 with I4 Qw I5; have Qx := I4.symm; have Qy := I5.symm; clear I4 Qw I5; subst Qx; subst Qy))
      refine hK.out _ _ ⟨(fA ah.out 0).trans rfl, (fA ah.out 1).trans rfl, (fA ah.out 2).trans rfl, (fA ah.out 3).trans rfl⟩ (fun hHeld => ?_)
      clear hK K
      refine kM (a' := ?_) ?_ ?_
      rotate_left
      ·show Act.put _ (some 44) _ = _
       simp only [Act.put, List.setIfInBounds_toArray, List.set_cons_zero, List.set_cons_succ, jG, jL]
       rfl
      refine vg (i := 4) (N := some 45) #[true, true, true, true, true, false, false, false, false] rfl rfl (lG uC.out dw) dY (fun K hK => ?_)
      refine wL Tryz.func87 dw rfl #[.pointer (some ⟨g, 0, none⟩), .slice Ao82 YF.length co82] (by rfl) rfl rfl lV ?_
      with_reducible refine (cO.calls g ax vk vz _ _ YF t405 t406 t407 w0 _ ?side1 ?side2 ?side3 ?side4 ?side5 A76.out).mono ?_
      (case side1 => exact oK)
      (case side2 => exact zV)
      (case side3 => repeat (first | exact (Kd.eG Dt.out).2.2 | (with_reducible refine Kd.rC ?_ _) | (with_reducible refine Kd.rD ?_ _) | (with_reducible refine Kd.uz ?_)))
      (case side4 => exact (Kd.eG Dt.out).2.1)
      (case side5 => exact lg (aG.own_ne HI0.out Dt.out dY))
      rintro e w83 ⟨rfl, hi, hb, hk⟩
      refine ⟨_, rfl, ?_⟩
      replace dW := am (kz (aG.apart (show aG w0 _ g ax vk vz from oK) (zR dW.out) dY) hk)
      replace dG := am (aQ.blk hk (g' := fP) (o := .cells #[.int .i64 0, .int .i64 0, .int .i64 0, .slice none 0 0] 77 (0, 0)) (zB dG.out) jq.out gB)
      replace ah := am (aQ.blk hk (g' := dR) (o := .cells #[.int .i64 jQ, .int .i64 jl, .int .i64 jm, kN] 77 (0, 0)) (zB ah.out) jr.out gB)
      replace Dt := am (kz (aG.apart (show aG w0 _ g ax vk vz from oK) (zR Dt.out) dY) hk)
      replace HK := am (aQ.trans vG hk (.inl rfl))
      replace HB := am hb
      replace HI0 := am hi
      (try clear hb)
      (try clear hb2)
      (try clear hk)
      (try clear hi)
      refine hK.out _ _ ⟨(fA ah.out 0).trans rfl, (fA ah.out 1).trans rfl, (fA ah.out 2).trans rfl, (fA ah.out 3).trans rfl⟩ (fun hHeld => ?_)
      clear hK K
      refine kM (a' := ?_) ?_ ?_
      rotate_left
      ·show Act.put _ (some 45) _ = _
       simp only [Act.put, List.setIfInBounds_toArray, List.set_cons_zero, List.set_cons_succ, jG, jL]
       rfl
      refine vg (i := 5) (N := some 46) #[true, true, true, true, true, true, false, false, false] rfl rfl (lG uC.out dw) dY (fun K hK => ?_)
      refine YA (w1 := ?_) (v := ?_) (by rfl) rfl ?_ ?_
      rotate_left 2
      ·go_simp
       constructor
       ·rfl
       ·rfl
      refine hK.out _ _ ⟨(fA (pF ah.out _) 0).trans rfl, (fA (pF ah.out _) 1).trans rfl, (fA (pF ah.out _) 2).trans rfl, (fA (pF ah.out _) 3).trans rfl⟩ (fun hHeld => ?_)
      clear hK K
      refine kM (a' := ?_) ?_ ?_
      rotate_left
      ·show Act.put _ (some 46) _ = _
       simp only [Act.put, List.setIfInBounds_toArray, List.set_cons_zero, List.set_cons_succ, jG, jL]
       rfl
      refine vg (i := 6) (N := some 47) #[true, true, true, true, true, true, true, false, false] rfl rfl (lG uC.out dw) dY (fun K hK => ?_)
      refine Kd.BR Kd.string w.heap.size (by rfl) (.tmp 42) (.tmp 46) 36 9 (.string ⟨#[]⟩) 16 rfl Tryz.underlying36 info9 rfl dY mY kN oD t405 [.string t405] (fun k_ => some k_ ≠ (.slice Ao82 YF.length co82 : Value).ownBlock) (fun _ => False) rfl rfl ?aP (fun _ hk => hk.elim) ?aF ?aO (Below.refl _ _) ?aS ?aL ?_
      (case aP => exact rfl)
      (case aF => exact (fun k_ hk => Kd.fresh' (Kd.Bv (zR Dt.out)) k_ hk))
      (case aO => exact (zR (Kd.gG dW.out (fun _ hk => hk.2))))
      (case aS => exact (gz (w := w) (g := g) (row := none) vG))
      (case aL => have := LMc77.out; omega)
      intro v409 w84 ho hb hg hat
      rw [← Ny408.out] at ho
      replace dG := am (nz (g := fP) (o := .cells #[.int .i64 0, .int .i64 0, .int .i64 0, .slice none 0 0] 77 (0, 0)) (zB dG.out) hg (Kd.Bl dW.out dG.out dY))
      replace ah := am (nz (g := dR) (o := .cells #[.int .i64 jQ, .int .i64 jl, .int .i64 jm, kN] 77 (0, 0)) (zB ah.out) hg (Kd.Bl dW.out ah.out dY))
      replace Dt := am (Kd.H6 (ok := (fun _ => True)) (zR Dt.out) hg hat)
      replace HB := am (yF zV HL.out hb)
      replace HI0 := am (aG.grown oK hg (aG.own_ne HI0.out dW.out dY))
      replace HK := am (aQ.trans vG (aQ.Dq hg g) (Kd.H7 dW.out))
      have HO410 := am ho
      clear dW ho hb hg hat
      obtain ⟨Ao85, co85, eo85⟩ := Kd.iK HO410.out
      (first | subst eo85 | (injection eo85 with I4 Qw I5; have Qx := I4.symm; have Qy := I5.symm; clear I4 Qw I5; subst Qx; subst Qy))
      refine hK.out _ _ ⟨(fA ah.out 0).trans rfl, (fA ah.out 1).trans rfl, (fA ah.out 2).trans rfl, (fA ah.out 3).trans rfl⟩ (fun hHeld => ?_)
      clear hK K
      refine kM (a' := ?_) ?_ ?_
      rotate_left
      ·show Act.put _ (some 47) _ = _
       simp only [Act.put, List.setIfInBounds_toArray, List.set_cons_zero, List.set_cons_succ, jG, jL]
       rfl
      refine pz 7 48 ?_
      refine last_ (i := 8) (N := none) #[true, true, true, true, true, true, true, true, true] rfl rfl (lG uC.out dw) dY (fun K hK => ?_)
      have hs86 : w84.cell? ⟨dR, 3, none⟩ = some (kN) := bc ah.out 3
      have hfs86 := aX ah.out 3
      have hns86_0 := jg.out
      have hms86_0 := oC.out
      refine UO (w1 := ?_) (by rfl) rfl ?_ ?_
      rotate_left
      ·go_simp
       rfl
      refine hK.out _ _ ?_
      clear hK K
      refine KE (Ae uC.out dw) ?_
      have hnb87 := oC.out
      have hnc87 := jg.out
      have hnb88 := jr.out
      have hnc88 := uT.out
      have hcz89_0 : w84.cell? ⟨dR, 0, none⟩ = some (.int .i64 jQ) := bc ah.out 0
      have hcz89_1 : w84.cell? ⟨dR, 1, none⟩ = some (.int .i64 jl) := bc ah.out 1
      have hcz89_2 : w84.cell? ⟨dR, 2, none⟩ = some (.int .i64 jm) := bc ah.out 2
      have hcz89_3 : w84.cell? ⟨dR, 3, none⟩ = some (kN) := bc ah.out 3
      have hfz89_0 := aX ah.out 0
      have hfz89_1 := aX ah.out 1
      have hfz89_2 := aX ah.out 2
      have hfz89_3 := aX ah.out 3
      have hnb90 := jq.out
      have hnc90 := yD.out
      have hcz91_0 : w84.cell? ⟨fP, 0, none⟩ = some (.int .i64 0) := bc dG.out 0
      have hcz91_1 : w84.cell? ⟨fP, 1, none⟩ = some (.int .i64 0) := bc dG.out 1
      have hcz91_2 : w84.cell? ⟨fP, 2, none⟩ = some (.int .i64 0) := bc dG.out 2
      have hcz91_3 : w84.cell? ⟨fP, 3, none⟩ = some (.slice none 0 0) := bc dG.out 3
      have hfz91_0 := aX dG.out 0
      have hfz91_1 := aX dG.out 1
      have hfz91_2 := aX dG.out 2
      have hfz91_3 := aX dG.out 3
      try go_wp2
      refine bodyPost_ret (results_cell_row rfl _ _ fP 77 #[.int .i64 jQ, .int .i64 jl, .int .i64 jm, .slice Ao85 y408.length co85] (0, 0) _ rfl zb21 Tryz.underlying77 rfl dw) rfl ?_
      exact ⟨_, pY, (zR (Kd.gG (Kd.gV (p := ⟨fP, 3, none⟩) (Kd.gV (p := ⟨fP, 2, none⟩) (Kd.gV (p := ⟨fP, 1, none⟩) (Kd.gV (p := ⟨fP, 0, none⟩) (Kd.gV (p := ⟨dR, 3, none⟩) (Kd.iQ (Kd.iQ HO410.out ah.out dY) dG.out dY) (fun _ hk => hk.1.2) (.slice Ao85 y408.length co85)) (fun _ hk => hk.2) (.int .i64 jQ)) (fun _ hk => hk.2) (.int .i64 jl)) (fun _ hk => hk.2) (.int .i64 jm)) (fun _ hk => hk.2) (.slice Ao85 y408.length co85)) (fun _ hk => trivial))), oK, zV, vG⟩
     ·rw [if_neg c77] at H
      exact absurd H gB
    ·rw [if_neg c75] at H
     have c75b0 : (xJ == 1) = false := beq_eq_false_iff_ne.mpr c75
     have c75b1 : (xJ != 1) = true := bne_iff_ne.mpr c75
     by_cases c92 : xJ = 2
     ·rw [if_pos c92] at H
      have c92b0 : (xJ == 2) = true := beq_iff_eq.mpr c92
      have c92b1 : (xJ != 2) = false := bne_eq_false_iff_eq.mpr c92
      clear c92
      obtain ⟨uy, OX⟩ : ∃ y_ : List ByteArray, y_ = (([(⟨#[97]⟩ : ByteArray), (⟨#[98]⟩ : ByteArray), (⟨#[99]⟩ : ByteArray), (⟨#[100]⟩ : ByteArray), (⟨#[101]⟩ : ByteArray)] : List ByteArray)) := ⟨_, rfl⟩
      replace H : ((fQ.f ax vk vz 2).bind fun zK => (if zK.1 = true then (if uy.length < 8796093022208 then (some (jQ, jl, jm, (uy ++ [(⟨#[102]⟩ : ByteArray)]), zK.2.1, zK.2.2)) else (none)) else (some (jQ, jl, jm, uy, zK.2.1, zK.2.2)))) = some (r1, r2, r3, r4, r5, r6) := by first | (rw [OX]; with_reducible exact H) | (have rZ := (Option.bind_some _ _).symm.trans H; rw [OX]; with_reducible exact rZ) | (have rZ := (Option.bind_some _ _).symm.trans H; with_reducible exact rZ) | with_reducible exact H | (rw [OX]; exact H) | exact H
      have UT := am OX
      clear OX
      replace H := Option.bind_eq_some_iff.mp H
      obtain ⟨⟨t414, t415, t416⟩, A930, H⟩ := H
      try dsimp only at H
      have A93 := am A930
      clear A930
      by_cases c94 : t414 = true
      ·subst c94
       rw [if_pos rfl] at H
       by_cases c95 : uy.length < 8796093022208
       ·rw [if_pos c95] at H
        have LMc95 := am c95
        clear c95
        obtain ⟨y417, OY⟩ : ∃ y_ : List ByteArray, y_ = (uy ++ [(⟨#[102]⟩ : ByteArray)]) := ⟨_, rfl⟩
        replace H : (some (jQ, jl, jm, y417, t415, t416)) = some (r1, r2, r3, r4, r5, r6) := by first | (rw [OY]; with_reducible exact H) | (have rZ := (Option.bind_some _ _).symm.trans H; rw [OY]; with_reducible exact rZ) | (have rZ := (Option.bind_some _ _).symm.trans H; with_reducible exact rZ) | with_reducible exact H | (rw [OY]; exact H) | exact H
        have Ny417 := am OY
        clear OY
        simp only [Option.some.injEq, Prod.mk.injEq] at H
        obtain ⟨rfl, rfl, rfl, rfl, rfl, rfl⟩ := H
        go_wp2_with (first | ((with_reducible refine aW (f := 88) rfl ?_); refine dU (some 32) rfl rfl Tryz.func88 dw rfl #[.pointer (some ⟨g, 0, none⟩), .int .i64 24] rfl lV ?_; (with_reducible refine (az.calls g ax ou oz 24 xJ vk vz w0 _ ?side1 ?side2 A61.out).mono ?_); (case side1 => exact oK); (case side2 => exact zV); rintro e w96 ⟨rfl, hi, hb, hk⟩; refine ⟨_, rfl, ?_⟩; replace dW := am (kz (aG.apart (show aG w0 _ g ax ou oz from oK) (zR dW.out) dY) hk); replace dG := am (aQ.blk hk (g' := fP) (o := .cells #[.int .i64 0, .int .i64 0, .int .i64 0, .slice none 0 0] 77 (0, 0)) (zB dG.out) jq.out gB); replace ah := am (aQ.blk hk (g' := dR) (o := .cells #[.int .i64 jQ, .int .i64 jl, .int .i64 jm, kN] 77 (0, 0)) (zB ah.out) jr.out gB); replace HK := am (aQ.trans vG hk (.inl rfl)); replace HB := am hb; replace HI0 := am hi; (try clear hb); (try clear hb2); (try clear hk); (try clear hi)) | ((with_reducible refine jF (N := 51) rfl ?_); refine Kd.su Kd.string _ 9 ?hg (N := 51) ?hd (xs := ([(⟨#[97]⟩ : ByteArray), (⟨#[98]⟩ : ByteArray), (⟨#[99]⟩ : ByteArray), (⟨#[100]⟩ : ByteArray), (⟨#[101]⟩ : ByteArray)] : List ByteArray)) (inner := [.string (⟨#[97]⟩ : ByteArray), .string (⟨#[98]⟩ : ByteArray), .string (⟨#[99]⟩ : ByteArray), .string (⟨#[100]⟩ : ByteArray), .string (⟨#[101]⟩ : ByteArray)]) (ok := fun _ => True) (okp := fun _ => True) ?hr ?hp (fun _ hk => hk) trivial (Below.refl _ _) (Nat.le_refl _) gB ?_; (case hd => rfl); (case hg => rfl); (case hr => exact oI); (case hp => exact G9); intro v412 w97 Vj hb xH jf; clear xH jf; (first | rw [← UT.out] at Vj | (simp only [Int.reduceToNat] at Vj; rw [← UT.out] at Vj)); have wM := am (Kd.iT (Kd.vC Vj (Kd.Bv (zR dW.out))) (gz (w := w) (g := g) (row := none) vG)); replace dW := am (Kd.oO (zR dW.out) (Kd.vF Vj) hb); replace dG := am (dI (zB dG.out) hb); replace ah := am (dI (zB ah.out) hb); replace HK := am (kb vG hb); replace HB := am (bK zV hb); replace HI0 := am (aG.below oK hb); clear hb Vj; obtain ⟨RF, RG, eo99⟩ := Kd.iK wM.out; subst eo99; have hnb100 := oC.out; have hnc100 := jg.out; have hnb101 := jr.out; have hnc101 := uT.out; have hcz102_0 : w97.cell? ⟨dR, 0, none⟩ = some (.int .i64 jQ) := bc ah.out 0; have hcz102_1 : w97.cell? ⟨dR, 1, none⟩ = some (.int .i64 jl) := bc ah.out 1; have hcz102_2 : w97.cell? ⟨dR, 2, none⟩ = some (.int .i64 jm) := bc ah.out 2; have hcz102_3 : w97.cell? ⟨dR, 3, none⟩ = some (kN) := bc ah.out 3; have hfz102_0 := aX ah.out 0; have hfz102_1 := aX ah.out 1; have hfz102_2 := aX ah.out 2; have hfz102_3 := aX ah.out 3) | ((with_reducible refine aW (f := 86) rfl ?_); refine dU (some 54) rfl rfl Tryz.func86 dw rfl #[.pointer (some ⟨g, 0, none⟩), .int .i64 2] rfl lV ?_; (with_reducible refine (fQ.calls g ax vk vz 2 true t415 t416 w0 _ ?side1 ?side2 A93.out).mono ?_); (case side1 => exact oK); (case side2 => exact zV); rintro e w103 ⟨rfl, hi, hb, hk⟩; refine ⟨_, rfl, ?_⟩; replace dW := am (kz (aG.apart (show aG w0 _ g ax vk vz from oK) (zR (Kd.gG (Kd.gV (p := ⟨dR, 3, none⟩) (Kd.iQ dW.out ah.out dY) (fun _ hk => hk.2) (.slice RF uy.length RG)) (fun _ h_ => h_.1))) dY) hk); replace dG := am (aQ.blk hk (g' := fP) (o := .cells #[.int .i64 0, .int .i64 0, .int .i64 0, .slice none 0 0] 77 (0, 0)) Xz jq.out gB); replace wM := am (kz (aG.apart (show aG w0 _ g ax vk vz from oK) (zR (Kd.gG (Kd.gV (p := ⟨dR, 3, none⟩) (Kd.iQ wM.out ah.out dY) (fun _ hk => hk.2) (.slice RF uy.length RG)) (fun _ h_ => h_.1))) dY) hk); replace ah := am (aQ.blk hk (g' := dR) (o := .cells #[.int .i64 jQ, .int .i64 jl, .int .i64 jm, .slice RF uy.length RG] 77 (0, 0)) zb37 jr.out gB); replace HK := am (aQ.trans vG hk (.inl rfl)); replace HB := am hb; replace HI0 := am hi; (try clear hb); (try clear hb2); (try clear hk); (try clear hi); have hcz104_0 : w103.cell? ⟨dR, 0, none⟩ = some (.int .i64 jQ) := bc ah.out 0; have hcz104_1 : w103.cell? ⟨dR, 1, none⟩ = some (.int .i64 jl) := bc ah.out 1; have hcz104_2 : w103.cell? ⟨dR, 2, none⟩ = some (.int .i64 jm) := bc ah.out 2; have hcz104_3 : w103.cell? ⟨dR, 3, none⟩ = some (.slice RF uy.length RG) := bc ah.out 3; have hfz104_0 := aX ah.out 0; have hfz104_1 := aX ah.out 1; have hfz104_2 := aX ah.out 2; have hfz104_3 := aX ah.out 3) | ((with_reducible refine uQ (b := .append) (xs := #[.tmp 56, .tmp 57]) rfl ?_); at_builtin; refine Kd.Dk Kd.string w.heap.size rfl (.tmp 56) (.tmp 57) 36 9 (.string ⟨#[]⟩) 16 rfl Tryz.underlying36 info9 rfl dY mY (.slice RF uy.length RG) uy (⟨#[102]⟩ : ByteArray) [.string (⟨#[102]⟩ : ByteArray)] (fun k_ => some k_ ≠ (kN : Value).ownBlock) (fun _ => False) rfl rfl ?aP (fun _ hk => hk.elim) ?aF ?aO (Below.refl _ _) ?aS ?aL ?_; (case aP => exact rfl); (case aF => exact (fun k_ hk => Kd.fresh' (Kd.Bv (zR dW.out)) k_ hk)); (case aO => exact (zR (Kd.gG wM.out (fun _ hk => hk.2)))); (case aS => exact (gz (w := w) (g := g) (row := none) vG)); (case aL => have := LMc95.out; omega); intro v418 OZ ho hb hg hat; rw [← Ny417.out] at ho; replace dW := am (Kd.H6 (ok := (fun _ => True)) (zR dW.out) hg hat); replace dG := am (nz (g := fP) (o := .cells #[.int .i64 0, .int .i64 0, .int .i64 0, .slice none 0 0] 77 (0, 0)) (zB dG.out) hg (Kd.Bl wM.out dG.out dY)); replace ah := am (nz (g := dR) (o := .cells #[.int .i64 jQ, .int .i64 jl, .int .i64 jm, .slice RF uy.length RG] 77 (0, 0)) (zB ah.out) hg (Kd.Bl wM.out ah.out dY)); replace HB := am (yF zV HL.out hb); replace HI0 := am (aG.grown oK hg (aG.own_ne HI0.out wM.out dY)); replace HK := am (aQ.trans vG (aQ.Dq hg g) (Kd.H7 wM.out)); have HO419 := am ho; clear wM ho hb hg hat; obtain ⟨YG, YH, eo106⟩ := Kd.iK HO419.out; subst eo106; have hcz107_0 : OZ.cell? ⟨dR, 0, none⟩ = some (.int .i64 jQ) := bc ah.out 0; have hcz107_1 : OZ.cell? ⟨dR, 1, none⟩ = some (.int .i64 jl) := bc ah.out 1; have hcz107_2 : OZ.cell? ⟨dR, 2, none⟩ = some (.int .i64 jm) := bc ah.out 2; have hcz107_3 : OZ.cell? ⟨dR, 3, none⟩ = some (.slice RF uy.length RG) := bc ah.out 3; have hfz107_0 := aX ah.out 0; have hfz107_1 := aX ah.out 1; have hfz107_2 := aX ah.out 2; have hfz107_3 := aX ah.out 3; have hnb108 := jq.out; have hnc108 := yD.out; have hcz109_0 : OZ.cell? ⟨fP, 0, none⟩ = some (.int .i64 0) := bc dG.out 0; have hcz109_1 : OZ.cell? ⟨fP, 1, none⟩ = some (.int .i64 0) := bc dG.out 1; have hcz109_2 : OZ.cell? ⟨fP, 2, none⟩ = some (.int .i64 0) := bc dG.out 2; have hcz109_3 : OZ.cell? ⟨fP, 3, none⟩ = some (.slice none 0 0) := bc dG.out 3; have hfz109_0 := aX dG.out 0; have hfz109_1 := aX dG.out 1; have hfz109_2 := aX dG.out 2; have hfz109_3 := aX dG.out 3))
        refine bodyPost_ret (results_cell_row rfl _ _ fP 77 #[.int .i64 jQ, .int .i64 jl, .int .i64 jm, .slice YG y417.length YH] (0, 0) _ rfl zb21 Tryz.underlying77 rfl dw) rfl ?_
        exact ⟨_, pY, (zR (Kd.gG (Kd.gV (p := ⟨fP, 3, none⟩) (Kd.gV (p := ⟨fP, 2, none⟩) (Kd.gV (p := ⟨fP, 1, none⟩) (Kd.gV (p := ⟨fP, 0, none⟩) (Kd.gV (p := ⟨dR, 3, none⟩) (Kd.iQ (Kd.iQ HO419.out ah.out dY) dG.out dY) (fun _ hk => hk.1.2) (.slice YG y417.length YH)) (fun _ hk => hk.2) (.int .i64 jQ)) (fun _ hk => hk.2) (.int .i64 jl)) (fun _ hk => hk.2) (.int .i64 jm)) (fun _ hk => hk.2) (.slice YG y417.length YH)) (fun _ hk => trivial))), oK, zV, vG⟩
       ·rw [if_neg c95] at H
        exact absurd H gB
      ·replace c94 := Bool.eq_false_iff.mpr c94
       subst c94
       rw [if_neg (show ¬ (false = true) by decide)] at H
       simp only [Option.some.injEq, Prod.mk.injEq] at H
       obtain ⟨rfl, rfl, rfl, rfl, rfl, rfl⟩ := H
       go_wp2_with (first | ((with_reducible refine aW (f := 88) rfl ?_); refine dU (some 32) rfl rfl Tryz.func88 dw rfl #[.pointer (some ⟨g, 0, none⟩), .int .i64 24] rfl lV ?_; (with_reducible refine (az.calls g ax ou oz 24 xJ vk vz w0 _ ?side1 ?side2 A61.out).mono ?_); (case side1 => exact oK); (case side2 => exact zV); rintro e w110 ⟨rfl, hi, hb, hk⟩; refine ⟨_, rfl, ?_⟩; replace dW := am (kz (aG.apart (show aG w0 _ g ax ou oz from oK) (zR dW.out) dY) hk); replace dG := am (aQ.blk hk (g' := fP) (o := .cells #[.int .i64 0, .int .i64 0, .int .i64 0, .slice none 0 0] 77 (0, 0)) (zB dG.out) jq.out gB); replace ah := am (aQ.blk hk (g' := dR) (o := .cells #[.int .i64 jQ, .int .i64 jl, .int .i64 jm, kN] 77 (0, 0)) (zB ah.out) jr.out gB); replace HK := am (aQ.trans vG hk (.inl rfl)); replace HB := am hb; replace HI0 := am hi; (try clear hb); (try clear hb2); (try clear hk); (try clear hi)) | ((with_reducible refine jF (N := 51) rfl ?_); refine Kd.su Kd.string _ 9 ?hg (N := 51) ?hd (xs := ([(⟨#[97]⟩ : ByteArray), (⟨#[98]⟩ : ByteArray), (⟨#[99]⟩ : ByteArray), (⟨#[100]⟩ : ByteArray), (⟨#[101]⟩ : ByteArray)] : List ByteArray)) (inner := [.string (⟨#[97]⟩ : ByteArray), .string (⟨#[98]⟩ : ByteArray), .string (⟨#[99]⟩ : ByteArray), .string (⟨#[100]⟩ : ByteArray), .string (⟨#[101]⟩ : ByteArray)]) (ok := fun _ => True) (okp := fun _ => True) ?hr ?hp (fun _ hk => hk) trivial (Below.refl _ _) (Nat.le_refl _) gB ?_; (case hd => rfl); (case hg => rfl); (case hr => exact oI); (case hp => exact G9); intro v412 w111 KG hb xH jf; clear xH jf; (first | rw [← UT.out] at KG | (simp only [Int.reduceToNat] at KG; rw [← UT.out] at KG)); have wM := am (Kd.iT (Kd.vC KG (Kd.Bv (zR dW.out))) (gz (w := w) (g := g) (row := none) vG)); replace dW := am (Kd.oO (zR dW.out) (Kd.vF KG) hb); replace dG := am (dI (zB dG.out) hb); replace ah := am (dI (zB ah.out) hb); replace HK := am (kb vG hb); replace HB := am (bK zV hb); replace HI0 := am (aG.below oK hb); clear hb KG; obtain ⟨KH, KI, eo113⟩ := Kd.iK wM.out; subst eo113; have hnb114 := oC.out; have hnc114 := jg.out; have hnb115 := jr.out; have hnc115 := uT.out; have hcz116_0 : w111.cell? ⟨dR, 0, none⟩ = some (.int .i64 jQ) := bc ah.out 0; have hcz116_1 : w111.cell? ⟨dR, 1, none⟩ = some (.int .i64 jl) := bc ah.out 1; have hcz116_2 : w111.cell? ⟨dR, 2, none⟩ = some (.int .i64 jm) := bc ah.out 2; have hcz116_3 : w111.cell? ⟨dR, 3, none⟩ = some (kN) := bc ah.out 3; have hfz116_0 := aX ah.out 0; have hfz116_1 := aX ah.out 1; have hfz116_2 := aX ah.out 2; have hfz116_3 := aX ah.out 3) | ((with_reducible refine aW (f := 86) rfl ?_); refine dU (some 54) rfl rfl Tryz.func86 dw rfl #[.pointer (some ⟨g, 0, none⟩), .int .i64 2] rfl lV ?_; (with_reducible refine (fQ.calls g ax vk vz 2 false t415 t416 w0 _ ?side1 ?side2 A93.out).mono ?_); (case side1 => exact oK); (case side2 => exact zV); rintro e O0 ⟨rfl, hi, hb, hk⟩; refine ⟨_, rfl, ?_⟩; replace dW := am (kz (aG.apart (show aG w0 _ g ax vk vz from oK) (zR (Kd.gG (Kd.gV (p := ⟨dR, 3, none⟩) (Kd.iQ dW.out ah.out dY) (fun _ hk => hk.2) (.slice KH uy.length KI)) (fun _ h_ => h_.1))) dY) hk); replace dG := am (aQ.blk hk (g' := fP) (o := .cells #[.int .i64 0, .int .i64 0, .int .i64 0, .slice none 0 0] 77 (0, 0)) Xz jq.out gB); replace wM := am (kz (aG.apart (show aG w0 _ g ax vk vz from oK) (zR (Kd.gG (Kd.gV (p := ⟨dR, 3, none⟩) (Kd.iQ wM.out ah.out dY) (fun _ hk => hk.2) (.slice KH uy.length KI)) (fun _ h_ => h_.1))) dY) hk); replace ah := am (aQ.blk hk (g' := dR) (o := .cells #[.int .i64 jQ, .int .i64 jl, .int .i64 jm, .slice KH uy.length KI] 77 (0, 0)) zb37 jr.out gB); replace HK := am (aQ.trans vG hk (.inl rfl)); replace HB := am hb; replace HI0 := am hi; (try clear hb); (try clear hb2); (try clear hk); (try clear hi); have hcz118_0 : O0.cell? ⟨dR, 0, none⟩ = some (.int .i64 jQ) := bc ah.out 0; have hcz118_1 : O0.cell? ⟨dR, 1, none⟩ = some (.int .i64 jl) := bc ah.out 1; have hcz118_2 : O0.cell? ⟨dR, 2, none⟩ = some (.int .i64 jm) := bc ah.out 2; have hcz118_3 : O0.cell? ⟨dR, 3, none⟩ = some (.slice KH uy.length KI) := bc ah.out 3; have hfz118_0 := aX ah.out 0; have hfz118_1 := aX ah.out 1; have hfz118_2 := aX ah.out 2; have hfz118_3 := aX ah.out 3; have hnb119 := jq.out; have hnc119 := yD.out; have hcz120_0 : O0.cell? ⟨fP, 0, none⟩ = some (.int .i64 0) := bc dG.out 0; have hcz120_1 : O0.cell? ⟨fP, 1, none⟩ = some (.int .i64 0) := bc dG.out 1; have hcz120_2 : O0.cell? ⟨fP, 2, none⟩ = some (.int .i64 0) := bc dG.out 2; have hcz120_3 : O0.cell? ⟨fP, 3, none⟩ = some (.slice none 0 0) := bc dG.out 3; have hfz120_0 := aX dG.out 0; have hfz120_1 := aX dG.out 1; have hfz120_2 := aX dG.out 2; have hfz120_3 := aX dG.out 3))
       refine bodyPost_ret (results_cell_row rfl _ _ fP 77 #[.int .i64 jQ, .int .i64 jl, .int .i64 jm, .slice KH uy.length KI] (0, 0) _ rfl zb24 Tryz.underlying77 rfl dw) rfl ?_
       exact ⟨_, pY, (zR (Kd.gG (Kd.gV (p := ⟨fP, 3, none⟩) (Kd.gV (p := ⟨fP, 2, none⟩) (Kd.gV (p := ⟨fP, 1, none⟩) (Kd.gV (p := ⟨fP, 0, none⟩) (Kd.iQ wM.out dG.out dY) (fun _ hk => hk.2) (.int .i64 jQ)) (fun _ hk => hk.2) (.int .i64 jl)) (fun _ hk => hk.2) (.int .i64 jm)) (fun _ hk => hk.2) (.slice KH uy.length KI)) (fun _ hk => trivial))), oK, zV, vG⟩
     ·rw [if_neg c92] at H
      have c92b0 : (xJ == 2) = false := beq_eq_false_iff_ne.mpr c92
      have c92b1 : (xJ != 2) = true := bne_iff_ne.mpr c92
      simp only [Option.some.injEq, Prod.mk.injEq] at H
      obtain ⟨rfl, rfl, rfl, rfl, rfl, rfl⟩ := H
      go_wp2_with (first | ((with_reducible refine aW (f := 88) rfl ?_); refine dU (some 32) rfl rfl Tryz.func88 dw rfl #[.pointer (some ⟨g, 0, none⟩), .int .i64 24] rfl lV ?_; (with_reducible refine (az.calls g ax ou oz 24 xJ vk vz w0 _ ?side1 ?side2 A61.out).mono ?_); (case side1 => exact oK); (case side2 => exact zV); rintro e O1 ⟨rfl, hi, hb, hk⟩; refine ⟨_, rfl, ?_⟩; replace dW := am (kz (aG.apart (show aG w0 _ g ax ou oz from oK) (zR dW.out) dY) hk); replace dG := am (aQ.blk hk (g' := fP) (o := .cells #[.int .i64 0, .int .i64 0, .int .i64 0, .slice none 0 0] 77 (0, 0)) (zB dG.out) jq.out gB); replace ah := am (aQ.blk hk (g' := dR) (o := .cells #[.int .i64 jQ, .int .i64 jl, .int .i64 jm, kN] 77 (0, 0)) (zB ah.out) jr.out gB); replace HK := am (aQ.trans vG hk (.inl rfl)); replace HB := am hb; replace HI0 := am hi; (try clear hb); (try clear hb2); (try clear hk); (try clear hi); have hnb122 := oC.out; have hnc122 := jg.out; have hnb123 := jr.out; have hnc123 := uT.out; have hcz124_0 : O1.cell? ⟨dR, 0, none⟩ = some (.int .i64 jQ) := bc ah.out 0; have hcz124_1 : O1.cell? ⟨dR, 1, none⟩ = some (.int .i64 jl) := bc ah.out 1; have hcz124_2 : O1.cell? ⟨dR, 2, none⟩ = some (.int .i64 jm) := bc ah.out 2; have hcz124_3 : O1.cell? ⟨dR, 3, none⟩ = some (kN) := bc ah.out 3; have hfz124_0 := aX ah.out 0; have hfz124_1 := aX ah.out 1; have hfz124_2 := aX ah.out 2; have hfz124_3 := aX ah.out 3; have hnb125 := jq.out; have hnc125 := yD.out; have hcz126_0 : O1.cell? ⟨fP, 0, none⟩ = some (.int .i64 0) := bc dG.out 0; have hcz126_1 : O1.cell? ⟨fP, 1, none⟩ = some (.int .i64 0) := bc dG.out 1; have hcz126_2 : O1.cell? ⟨fP, 2, none⟩ = some (.int .i64 0) := bc dG.out 2; have hcz126_3 : O1.cell? ⟨fP, 3, none⟩ = some (.slice none 0 0) := bc dG.out 3; have hfz126_0 := aX dG.out 0; have hfz126_1 := aX dG.out 1; have hfz126_2 := aX dG.out 2; have hfz126_3 := aX dG.out 3; obtain ⟨Ao127, co127, eo127⟩ := Kd.iK dW.out; subst eo127))
      refine bodyPost_ret (results_cell_row rfl _ _ fP 77 #[.int .i64 jQ, .int .i64 jl, .int .i64 jm, .slice Ao127 oD.length co127] (0, 0) _ rfl zb24 Tryz.underlying77 rfl dw) rfl ?_
      exact ⟨_, pY, (zR (Kd.gG (Kd.gV (p := ⟨fP, 3, none⟩) (Kd.gV (p := ⟨fP, 2, none⟩) (Kd.gV (p := ⟨fP, 1, none⟩) (Kd.gV (p := ⟨fP, 0, none⟩) (Kd.iQ dW.out dG.out dY) (fun _ hk => hk.2) (.int .i64 jQ)) (fun _ hk => hk.2) (.int .i64 jl)) (fun _ hk => hk.2) (.int .i64 jm)) (fun _ hk => hk.2) (.slice Ao127 oD.length co127)) (fun _ hk => trivial))), oK, zV, vG⟩
def dn.T6 : Bool × List (List Nat × List Nat) := (true, [([], []), ([], []), ([0, 1], [0, 1]), ([], []), ([], []), ([3, 4], [3, 4]), ([2, 5], [2, 5]), ([], []), ([], []), ([7, 8], [7, 8]), ([6, 9], [6, 9]), ([10, 5, 0, 1, 2, 3, 4, 5, 6, 7, 8, 9, 10], [10])])
def dn.B6 : List Nat := [0, 0, 3, 0, 0, 24, 63, 0, 0, 384, 1023, 2047]
theorem dn.tab6 : tC .any (opsOf Tryz.f45 6) = dn.T6 := by kernel_rfl
theorem dn.bits6 : uS dn.T6.2 dn.B6 = true := by kernel_rfl
def dn.T9 : Bool × List (List Nat × List Nat) := (true, [([], []), ([], []), ([0, 1], [0, 1]), ([], []), ([], []), ([3, 4], [3, 4]), ([2, 5], [2, 5]), ([], []), ([], []), ([8], [8]), ([7, 9], [7, 9]), ([6, 10], [6, 10]), ([11, 5, 0, 1, 2, 3, 4, 5, 6, 7, 8, 9, 10, 11], [11])])
def dn.B9 : List Nat := [0, 0, 3, 0, 0, 24, 63, 0, 0, 256, 896, 2047, 4095]
theorem dn.tab9 : tC .any (opsOf Tryz.f45 9) = dn.T9 := by kernel_rfl
theorem dn.bits9 : uS dn.T9.2 dn.B9 = true := by kernel_rfl
set_option maxHeartbeats 8000000 in
set_option maxRecDepth 100000 in
theorem dn.calls (g : Nat) (ax : List Int) (gX : Int) (gu : Int) (a1 : ByteArray) (r1 : ByteArray) (r2 : Int) (r3 : Int) (w0 w : World) (hI : aG w0 w g ax gX gu) (hB : Below w0.heap.size w0 w) (h : dn.f ax gX gu a1 = some (r1, r2, r3)) :
  Calls Tryz.prog 45 #[.pointer (some ⟨g, 0, none⟩), .string a1] w fun e w' => e = .returned (.string r1) ∧ aG w0 w' g ax r2 r3 ∧ Below w0.heap.size w0 w' ∧ aQ w w' g none := by
 have HI0 := am hI
 have HK := am (aQ.refl w g none)
 have HL := am hB.size
 clear hI
 have HW0 := am hB.size
 have HB := am hB
 clear hB
 have H : ((az.f ax gX gu (wrap64 ((a1.size : Int) + 1))).bind fun jP => ((az.f ax jP.2.1 jP.2.2 8).bind fun mX => (if mX.1 = 0 then (if 0 ≤ jP.1 then (if jP.1 ≤ (a1.size : Int) then (some (a1.extract 0 (jP.1 : Int).toNat, mX.2.1, mX.2.2)) else (none)) else (none)) else (if mX.1 = 1 then (if 0 ≤ jP.1 then (if jP.1 ≤ (a1.size : Int) then ((cO.f ax mX.2.1 mX.2.2 (([(⟨#[48]⟩ : ByteArray), (⟨#[32]⟩ : ByteArray), (⟨#[255]⟩ : ByteArray), (⟨#[34]⟩ : ByteArray), (⟨#[10]⟩ : ByteArray), (⟨#[97]⟩ : ByteArray), (⟨#[44]⟩ : ByteArray), (⟨#[61]⟩ : ByteArray)] : List ByteArray))).bind fun sW => (if (a1.extract 0 (jP.1 : Int).toNat).size + sW.1.size ≤ 9223372036854775807 then (if ((a1.extract 0 (jP.1 : Int).toNat) ++ sW.1).size + (a1.extract (jP.1 : Int).toNat a1.size).size ≤ 9223372036854775807 then (some (((a1.extract 0 (jP.1 : Int).toNat) ++ sW.1) ++ (a1.extract (jP.1 : Int).toNat a1.size), sW.2.1, sW.2.2)) else (none)) else (none))) else (none)) else (none)) else (if mX.1 = 2 then (if jP.1 < (a1.size : Int) then (if 0 ≤ jP.1 then (if jP.1 ≤ (a1.size : Int) then ((cO.f ax mX.2.1 mX.2.2 (([(⟨#[48]⟩ : ByteArray), (⟨#[65]⟩ : ByteArray), (⟨#[0]⟩ : ByteArray), (⟨#[57]⟩ : ByteArray), (⟨#[93]⟩ : ByteArray), (⟨#[92]⟩ : ByteArray)] : List ByteArray))).bind fun sZ => (if (a1.extract 0 (jP.1 : Int).toNat).size + sZ.1.size ≤ 9223372036854775807 then (if 0 ≤ (wrap64 (jP.1 + 1)) then (if (wrap64 (jP.1 + 1)) ≤ (a1.size : Int) then (if ((a1.extract 0 (jP.1 : Int).toNat) ++ sZ.1).size + (a1.extract ((wrap64 (jP.1 + 1)) : Int).toNat a1.size).size ≤ 9223372036854775807 then (some (((a1.extract 0 (jP.1 : Int).toNat) ++ sZ.1) ++ (a1.extract ((wrap64 (jP.1 + 1)) : Int).toNat a1.size), sZ.2.1, sZ.2.2)) else (none)) else (none)) else (none)) else (none))) else (none)) else (none)) else (some (a1, mX.2.1, mX.2.2))) else (some (a1, mX.2.1, mX.2.2))))))) = some (r1, r2, r3) := h
 clear h
 replace H := Option.bind_eq_some_iff.mp H
 obtain ⟨⟨nG, Jb, Jc⟩, yl, H⟩ := H
 try dsimp only at H
 have A3 := am yl
 clear yl
 replace H := Option.bind_eq_some_iff.mp H
 obtain ⟨⟨xK, BI, BJ⟩, UF, H⟩ := H
 try dsimp only at H
 have A4 := am UF
 clear UF
 by_cases c5 : xK = 0
 ·rw [if_pos c5] at H
  have V6 : (xK == 0) = true := beq_iff_eq.mpr c5
  have c5b1 : (xK != 0) = false := bne_eq_false_iff_eq.mpr c5
  clear c5
  by_cases c6 : 0 ≤ nG
  ·rw [if_pos c6] at H
   have c6b0 := eq_true c6
   have c6b1 : decide (0 ≤ nG) = true := decide_eq_true c6
   clear c6
   by_cases c7 : nG ≤ (a1.size : Int)
   ·rw [if_pos c7] at H
    have zD := eq_true c7
    have OL : decide (nG ≤ (a1.size : Int)) = true := decide_eq_true c7
    clear c7
    obtain ⟨js8, YI⟩ : ∃ j_ : ByteArray, (a1.extract 0 (nG : Int).toNat) = j_ := ⟨_, rfl⟩
    replace H : (some (js8, BI, BJ)) = some (r1, r2, r3) := by first | (rw [YI] at H; exact H) | (simp only [YI] at H ⊢; exact H)
    (try rw [YI] at A3)
    (try rw [YI] at A4)
    simp only [Option.some.injEq, Prod.mk.injEq] at H
    obtain ⟨rfl, rfl, rfl⟩ := H
    go_enter Tryz.func45, Tryz.ntmps45
    go_wp2_with (first | ((with_reducible refine aW (f := 88) rfl ?_); refine dU (some 10) rfl rfl Tryz.func88 dw rfl #[.pointer (some ⟨g, 0, none⟩), .int .i64 (wrap64 ((a1.size : Int) + 1))] rfl lV ?_; (with_reducible refine (az.calls g ax gX gu (wrap64 ((a1.size : Int) + 1)) nG Jb Jc w0 _ ?side1 ?side2 A3.out).mono ?_); (case side1 => exact lW); (case side2 => exact lY); rintro e w9 ⟨rfl, hi, hb, hk⟩; refine ⟨_, rfl, ?_⟩; replace HK := am (aQ.trans lX hk (.inl rfl)); replace HB := am hb; replace HI0 := am hi; (try clear hb); (try clear hb2); (try clear hk); (try clear hi)) | ((with_reducible refine aW (f := 88) rfl ?_); refine dU (some 12) rfl rfl Tryz.func88 dw rfl #[.pointer (some ⟨g, 0, none⟩), .int .i64 8] rfl lV ?_; (with_reducible refine (az.calls g ax Jb Jc 8 xK BI BJ w0 _ ?side1 ?side2 A4.out).mono ?_); (case side1 => exact lW); (case side2 => exact lY); rintro e w10 ⟨rfl, hi, hb, hk⟩; refine ⟨_, rfl, ?_⟩; replace HK := am (aQ.trans lX hk (.inl rfl)); replace HB := am hb; replace HI0 := am hi; (try clear hb); (try clear hb2); (try clear hk); (try clear hi)))
    go_ret
    exact ⟨(by first | rfl | (simp [jv, jw] <;> rfl) | (simp only [← YI]; first | rfl | (simp [jv, jw] <;> rfl)) | (simp [*, jv, jw] <;> rfl)), lW, lY, lX⟩
   ·rw [if_neg c7] at H
    exact absurd H gB
  ·rw [if_neg c6] at H
   exact absurd H gB
 ·rw [if_neg c5] at H
  have V6 : (xK == 0) = false := beq_eq_false_iff_ne.mpr c5
  have c5b1 : (xK != 0) = true := bne_iff_ne.mpr c5
  by_cases c11 : xK = 1
  ·rw [if_pos c11] at H
   have Xt : (xK == 1) = true := beq_iff_eq.mpr c11
   have c11b1 : (xK != 1) = false := bne_eq_false_iff_eq.mpr c11
   clear c11
   by_cases c12 : 0 ≤ nG
   ·rw [if_pos c12] at H
    have Dj := eq_true c12
    have c12b1 : decide (0 ≤ nG) = true := decide_eq_true c12
    clear c12
    by_cases c13 : nG ≤ (a1.size : Int)
    ·rw [if_pos c13] at H
     have Xu := eq_true c13
     have Xv : decide (nG ≤ (a1.size : Int)) = true := decide_eq_true c13
     clear c13
     obtain ⟨Bo, yj⟩ : ∃ j_ : ByteArray, (a1.extract 0 (nG : Int).toNat) = j_ := ⟨_, rfl⟩
     replace H : ((cO.f ax BI BJ (([(⟨#[48]⟩ : ByteArray), (⟨#[32]⟩ : ByteArray), (⟨#[255]⟩ : ByteArray), (⟨#[34]⟩ : ByteArray), (⟨#[10]⟩ : ByteArray), (⟨#[97]⟩ : ByteArray), (⟨#[44]⟩ : ByteArray), (⟨#[61]⟩ : ByteArray)] : List ByteArray))).bind fun sW => (if (Bo).size + sW.1.size ≤ 9223372036854775807 then (if ((Bo) ++ sW.1).size + (a1.extract (nG : Int).toNat a1.size).size ≤ 9223372036854775807 then (some (((Bo) ++ sW.1) ++ (a1.extract (nG : Int).toNat a1.size), sW.2.1, sW.2.2)) else (none)) else (none))) = some (r1, r2, r3) := by first | (rw [yj] at H; exact H) | (simp only [yj] at H ⊢; exact H)
     (try rw [yj] at A3)
     (try rw [yj] at A4)
     obtain ⟨y607, UU⟩ : ∃ y_ : List ByteArray, y_ = (([(⟨#[48]⟩ : ByteArray), (⟨#[32]⟩ : ByteArray), (⟨#[255]⟩ : ByteArray), (⟨#[34]⟩ : ByteArray), (⟨#[10]⟩ : ByteArray), (⟨#[97]⟩ : ByteArray), (⟨#[44]⟩ : ByteArray), (⟨#[61]⟩ : ByteArray)] : List ByteArray)) := ⟨_, rfl⟩
     first | replace H := hb1 H (show (cO.f ax BI BJ y607) = _ from (by rw [UU])) | replace H := hb1 (hb2 H) (show (cO.f ax BI BJ y607) = _ from (by rw [UU]))
     have Ny607 := am UU
     clear UU
     replace H := Option.bind_eq_some_iff.mp H
     obtain ⟨⟨YJ, t611, t612⟩, YK, H⟩ := H
     try dsimp only at H
     have Gi := am YK
     clear YK
     by_cases c16 : (Bo).size + YJ.size ≤ 9223372036854775807
     ·rw [if_pos c16] at H
      have UW := eq_true c16
      have c16b1 : decide ((Bo).size + YJ.size ≤ 9223372036854775807) = true := decide_eq_true c16
      try have c16b2 : (9223372036854775807 < (Bo).size + YJ.size) = False := eq_false (Nat.not_lt.2 c16)
      obtain ⟨O3, KJ⟩ : ∃ j_ : ByteArray, ((Bo) ++ YJ) = j_ := ⟨_, rfl⟩
      replace H : (if (O3).size + (a1.extract (nG : Int).toNat a1.size).size ≤ 9223372036854775807 then (some ((O3) ++ (a1.extract (nG : Int).toNat a1.size), t611, t612)) else (none)) = some (r1, r2, r3) := by first | (rw [KJ] at H; exact H) | (simp only [KJ] at H ⊢; exact H)
      (try rw [KJ] at A3)
      (try rw [KJ] at A4)
      (try rw [KJ] at Gi)
      have c18b0 := eq_true (of_decide_eq_true kJ : 0 ≤ nG)
      have c19b0 := eq_true (of_decide_eq_true kJ : nG ≤ (a1.size : Int))
      obtain ⟨Vk, KL⟩ : ∃ j_ : ByteArray, (a1.extract (nG : Int).toNat a1.size) = j_ := ⟨_, rfl⟩
      replace H : (if (O3).size + (Vk).size ≤ 9223372036854775807 then (some ((O3) ++ (Vk), t611, t612)) else (none)) = some (r1, r2, r3) := by first | (rw [KL] at H; exact H) | (simp only [KL] at H ⊢; exact H)
      (try rw [KL] at A3)
      (try rw [KL] at A4)
      (try rw [KL] at Gi)
      by_cases c21 : (O3).size + (Vk).size ≤ 9223372036854775807
      ·rw [if_pos c21] at H
       have YL := eq_true c21
       have c21b1 : decide ((O3).size + (Vk).size ≤ 9223372036854775807) = true := decide_eq_true c21
       try have c21b2 : (9223372036854775807 < (O3).size + (Vk).size) = False := eq_false (Nat.not_lt.2 c21)
       obtain ⟨O4, BU⟩ : ∃ j_ : ByteArray, ((O3) ++ (Vk)) = j_ := ⟨_, rfl⟩
       replace H : (some (O4, t611, t612)) = some (r1, r2, r3) := by first | (rw [BU] at H; exact H) | (simp only [BU] at H ⊢; exact H)
       (try rw [BU] at A3)
       (try rw [BU] at A4)
       (try rw [BU] at Gi)
       simp only [Option.some.injEq, Prod.mk.injEq] at H
       obtain ⟨rfl, rfl, rfl⟩ := H
       go_enter Tryz.func45, Tryz.ntmps45
       try go_wp2_with (first | ((with_reducible refine aW (f := 88) rfl ?_); refine dU (some 10) rfl rfl Tryz.func88 dw rfl #[.pointer (some ⟨g, 0, none⟩), .int .i64 (wrap64 ((a1.size : Int) + 1))] rfl lV ?_; (with_reducible refine (az.calls g ax gX gu (wrap64 ((a1.size : Int) + 1)) nG Jb Jc w0 _ ?side1 ?side2 A3.out).mono ?_); (case side1 => exact lW); (case side2 => exact lY); rintro e w23 ⟨rfl, hi, hb, hk⟩; refine ⟨_, rfl, ?_⟩; replace HK := am (aQ.trans lX hk (.inl rfl)); replace HB := am hb; replace HI0 := am hi; (try clear hb); (try clear hb2); (try clear hk); (try clear hi)) | ((with_reducible refine aW (f := 88) rfl ?_); refine dU (some 12) rfl rfl Tryz.func88 dw rfl #[.pointer (some ⟨g, 0, none⟩), .int .i64 8] rfl lV ?_; (with_reducible refine (az.calls g ax Jb Jc 8 xK BI BJ w0 _ ?side1 ?side2 A4.out).mono ?_); (case side1 => exact lW); (case side2 => exact lY); rintro e w24 ⟨rfl, hi, hb, hk⟩; refine ⟨_, rfl, ?_⟩; replace HK := am (aQ.trans lX hk (.inl rfl)); replace HB := am hb; replace HI0 := am hi; (try clear hb); (try clear hb2); (try clear hk); (try clear hi)))
       replace HI0 := am (aG.drew HI0.out)
       replace HK := am (rf HK.out)
       replace HB := am (dQ HB.out)
       refine Ej (n := 12) (S := fun w' => True) (ds := []) #[false, false, false, false, false, false, false, false, false, false, false, false] dw rfl rfl trivial (fun hHeld => ?_); refine um dn.tab6 dn.bits6 (fun uC Qu => ?_)
       generalize w24.drew = w25 at HI0 HK HB hHeld ⊢
       refine pz 0 20 ?_
       refine pz 1 21 ?_
       refine pz 2 22 ?_
       refine pz 3 23 ?_
       refine pz 7 27 ?_
       refine pz 8 28 ?_
       refine pz 9 29 ?_
       refine vg (i := 4) (N := some 24) #[true, true, true, true, true, false, false, true, true, true, false, false] rfl rfl (lG uC.out dw) dY (fun K hK => ?_)
       refine Kd.yE Kd.string _ 9 ?hg (N := 24) ?hd (xs := ([(⟨#[48]⟩ : ByteArray), (⟨#[32]⟩ : ByteArray), (⟨#[255]⟩ : ByteArray), (⟨#[34]⟩ : ByteArray), (⟨#[10]⟩ : ByteArray), (⟨#[97]⟩ : ByteArray), (⟨#[44]⟩ : ByteArray), (⟨#[61]⟩ : ByteArray)] : List ByteArray)) (inner := [.string (⟨#[48]⟩ : ByteArray), .string (⟨#[32]⟩ : ByteArray), .string (⟨#[255]⟩ : ByteArray), .string (⟨#[34]⟩ : ByteArray), .string (⟨#[10]⟩ : ByteArray), .string (⟨#[97]⟩ : ByteArray), .string (⟨#[44]⟩ : ByteArray), .string (⟨#[61]⟩ : ByteArray)]) (ok := fun _ => True) (okp := fun _ => True) ?hr ?hp (fun _ hk => hk) trivial (Below.refl _ _) (Nat.le_refl _) gB ?_; (case hd => rfl); (case hg => rfl); (case hr => exact oI); (case hp => exact G9)
       intro v608 w26 YM hb xH jf
       clear xH jf
       (first | rw [← Ny607.out] at YM | (simp only [Int.reduceToNat] at YM; rw [← Ny607.out] at YM))
       have KN := am (Kd.iT YM (gz (w := w) (g := g) (row := none) lX))
       replace HK := am (kb lX hb)
       replace HB := am (bK lY hb)
       replace HI0 := am (aG.below lW hb)
       clear hb YM
       obtain ⟨Ao28, co28, eo28⟩ := Kd.iK KN.out
       (first | subst eo28 | (injection eo28 with I4 Qw I5; have Qx := I4.symm; have Qy := I5.symm; clear I4 Qw I5; subst Qx; subst Qy))
       refine hK.out _ _ trivial (fun hHeld => ?_)
       clear hK K
       refine kM (a' := ?_) ?_ ?_
       rotate_left
       ·show Act.put _ (some 24) _ = _
        simp only [Act.put, List.setIfInBounds_toArray, List.set_cons_zero, List.set_cons_succ, jG, jL]
        rfl
       refine vg (i := 5) (N := some 25) #[true, true, true, true, true, true, false, true, true, true, false, false] rfl rfl (lG uC.out dw) dY (fun K hK => ?_)
       refine wL Tryz.func87 dw rfl #[.pointer (some ⟨g, 0, none⟩), .slice Ao28 y607.length co28] (by rfl) rfl rfl lV ?_
       with_reducible refine (cO.calls g ax BI BJ _ _ y607 YJ t611 t612 w0 _ ?side1 ?side2 ?side3 ?side4 ?side5 Gi.out).mono ?_
       (case side1 => exact lW)
       (case side2 => exact lY)
       (case side3 => repeat (first | exact (Kd.eG KN.out).2.2 | (with_reducible refine Kd.rC ?_ _) | (with_reducible refine Kd.rD ?_ _) | (with_reducible refine Kd.uz ?_)))
       (case side4 => exact (Kd.eG KN.out).2.1)
       (case side5 => exact lg (aG.own_ne HI0.out KN.out dY))
       rintro e w29 ⟨rfl, hi, hb, hk⟩
       refine ⟨_, rfl, ?_⟩
       replace KN := am (kz (aG.apart (show aG w0 _ g ax BI BJ from lW) (zR KN.out) dY) hk)
       replace HK := am (aQ.trans lX hk (.inl rfl))
       replace HB := am hb
       replace HI0 := am hi
       (try clear hb)
       (try clear hb2)
       (try clear hk)
       (try clear hi)
       refine hK.out _ _ trivial (fun hHeld => ?_)
       clear hK K
       refine kM (a' := ?_) ?_ ?_
       rotate_left
       ·show Act.put _ (some 25) _ = _
        simp only [Act.put, List.setIfInBounds_toArray, List.set_cons_zero, List.set_cons_succ, jG, jL]
        rfl
       refine pz 6 26 ?_
       refine pz 10 30 ?_
       refine pz 11 4 ?_
       refine KE (Ae uC.out dw) ?_
       try go_wp2
       go_ret
       exact ⟨(by first | rfl | (simp [jv, jw] <;> rfl) | (simp only [← yj, ← KJ, ← KL, ← BU]; first | rfl | (simp [jv, jw] <;> rfl)) | (simp [*, jv, jw] <;> rfl)), lW, lY, lX⟩
      ·rw [if_neg c21] at H
       exact absurd H gB
     ·rw [if_neg c16] at H
      exact absurd H gB
    ·rw [if_neg c13] at H
     exact absurd H gB
   ·rw [if_neg c12] at H
    exact absurd H gB
  ·rw [if_neg c11] at H
   have Xt : (xK == 1) = false := beq_eq_false_iff_ne.mpr c11
   have c11b1 : (xK != 1) = true := bne_iff_ne.mpr c11
   by_cases OC : xK = 2
   ·rw [if_pos OC] at H
    have c30b0 : (xK == 2) = true := beq_iff_eq.mpr OC
    have c30b1 : (xK != 2) = false := bne_eq_false_iff_eq.mpr OC
    clear OC
    by_cases c31 : nG < (a1.size : Int)
    ·rw [if_pos c31] at H
     have c31b0 : decide (nG < (a1.size : Int)) = true := decide_eq_true c31
     clear c31
     by_cases c32 : 0 ≤ nG
     ·rw [if_pos c32] at H
      have c32b0 := eq_true c32
      have c32b1 : decide (0 ≤ nG) = true := decide_eq_true c32
      clear c32
      by_cases Vl : nG ≤ (a1.size : Int)
      ·rw [if_pos Vl] at H
       have c33b0 := eq_true Vl
       have c33b1 : decide (nG ≤ (a1.size : Int)) = true := decide_eq_true Vl
       clear Vl
       obtain ⟨RH, O5⟩ : ∃ j_ : ByteArray, (a1.extract 0 (nG : Int).toNat) = j_ := ⟨_, rfl⟩
       replace H : ((cO.f ax BI BJ (([(⟨#[48]⟩ : ByteArray), (⟨#[65]⟩ : ByteArray), (⟨#[0]⟩ : ByteArray), (⟨#[57]⟩ : ByteArray), (⟨#[93]⟩ : ByteArray), (⟨#[92]⟩ : ByteArray)] : List ByteArray))).bind fun sZ => (if (RH).size + sZ.1.size ≤ 9223372036854775807 then (if 0 ≤ (wrap64 (nG + 1)) then (if (wrap64 (nG + 1)) ≤ (a1.size : Int) then (if ((RH) ++ sZ.1).size + (a1.extract ((wrap64 (nG + 1)) : Int).toNat a1.size).size ≤ 9223372036854775807 then (some (((RH) ++ sZ.1) ++ (a1.extract ((wrap64 (nG + 1)) : Int).toNat a1.size), sZ.2.1, sZ.2.2)) else (none)) else (none)) else (none)) else (none))) = some (r1, r2, r3) := by first | (rw [O5] at H; exact H) | (simp only [O5] at H ⊢; exact H)
       (try rw [O5] at A3)
       (try rw [O5] at A4)
       obtain ⟨y613, UX⟩ : ∃ y_ : List ByteArray, y_ = (([(⟨#[48]⟩ : ByteArray), (⟨#[65]⟩ : ByteArray), (⟨#[0]⟩ : ByteArray), (⟨#[57]⟩ : ByteArray), (⟨#[93]⟩ : ByteArray), (⟨#[92]⟩ : ByteArray)] : List ByteArray)) := ⟨_, rfl⟩
       first | replace H := hb1 H (show (cO.f ax BI BJ y613) = _ from (by rw [UX])) | replace H := hb1 (hb2 H) (show (cO.f ax BI BJ y613) = _ from (by rw [UX]))
       have Ny613 := am UX
       clear UX
       replace H := Option.bind_eq_some_iff.mp H
       obtain ⟨⟨YN, YO, YP⟩, A350, H⟩ := H
       try dsimp only at H
       have A35 := am A350
       clear A350
       by_cases Vm : (RH).size + YN.size ≤ 9223372036854775807
       ·rw [if_pos Vm] at H
        have c36b0 := eq_true Vm
        have c36b1 : decide ((RH).size + YN.size ≤ 9223372036854775807) = true := decide_eq_true Vm
        try have c36b2 : (9223372036854775807 < (RH).size + YN.size) = False := eq_false (Nat.not_lt.2 Vm)
        obtain ⟨Jd, KO⟩ : ∃ j_ : ByteArray, ((RH) ++ YN) = j_ := ⟨_, rfl⟩
        replace H : (if 0 ≤ (wrap64 (nG + 1)) then (if (wrap64 (nG + 1)) ≤ (a1.size : Int) then (if (Jd).size + (a1.extract ((wrap64 (nG + 1)) : Int).toNat a1.size).size ≤ 9223372036854775807 then (some ((Jd) ++ (a1.extract ((wrap64 (nG + 1)) : Int).toNat a1.size), YO, YP)) else (none)) else (none)) else (none)) = some (r1, r2, r3) := by first | (rw [KO] at H; exact H) | (simp only [KO] at H ⊢; exact H)
        (try rw [KO] at A3)
        (try rw [KO] at A4)
        (try rw [KO] at A35)
        obtain ⟨Je, I7⟩ : ∃ j_ : Int, (wrap64 (nG + 1)) = j_ := ⟨_, rfl⟩
        replace H : (if 0 ≤ (Je) then (if (Je) ≤ (a1.size : Int) then (if (Jd).size + (a1.extract ((Je) : Int).toNat a1.size).size ≤ 9223372036854775807 then (some ((Jd) ++ (a1.extract ((Je) : Int).toNat a1.size), YO, YP)) else (none)) else (none)) else (none)) = some (r1, r2, r3) := by first | (rw [I7] at H; exact H) | (simp only [I7] at H ⊢; exact H)
        (try rw [I7] at A3)
        (try rw [I7] at A4)
        (try rw [I7] at A35)
        have hji38w : (IntKind.i64.wrap (nG + 1)) = Je := (jG _).trans I7
        by_cases c39 : 0 ≤ (Je)
        ·rw [if_pos c39] at H
         have c39b0 := eq_true c39
         have c39b1 : decide (0 ≤ (Je)) = true := decide_eq_true c39
         clear c39
         by_cases c40 : (Je) ≤ (a1.size : Int)
         ·rw [if_pos c40] at H
          have c40b0 := eq_true c40
          have c40b1 : decide ((Je) ≤ (a1.size : Int)) = true := decide_eq_true c40
          clear c40
          obtain ⟨MJ, yu⟩ : ∃ j_ : ByteArray, (a1.extract ((Je) : Int).toNat a1.size) = j_ := ⟨_, rfl⟩
          replace H : (if (Jd).size + (MJ).size ≤ 9223372036854775807 then (some ((Jd) ++ (MJ), YO, YP)) else (none)) = some (r1, r2, r3) := by first | (rw [yu] at H; exact H) | (simp only [yu] at H ⊢; exact H)
          (try rw [yu] at A3)
          (try rw [yu] at A4)
          (try rw [yu] at A35)
          by_cases c42 : (Jd).size + (MJ).size ≤ 9223372036854775807
          ·rw [if_pos c42] at H
           have c42b0 := eq_true c42
           have c42b1 : decide ((Jd).size + (MJ).size ≤ 9223372036854775807) = true := decide_eq_true c42
           try have c42b2 : (9223372036854775807 < (Jd).size + (MJ).size) = False := eq_false (Nat.not_lt.2 c42)
           obtain ⟨js43, KP⟩ : ∃ j_ : ByteArray, ((Jd) ++ (MJ)) = j_ := ⟨_, rfl⟩
           replace H : (some (js43, YO, YP)) = some (r1, r2, r3) := by first | (rw [KP] at H; exact H) | (simp only [KP] at H ⊢; exact H)
           (try rw [KP] at A3)
           (try rw [KP] at A4)
           (try rw [KP] at A35)
           simp only [Option.some.injEq, Prod.mk.injEq] at H
           obtain ⟨rfl, rfl, rfl⟩ := H
           go_enter Tryz.func45, Tryz.ntmps45
           try go_wp2_with (first | ((with_reducible refine aW (f := 88) rfl ?_); refine dU (some 10) rfl rfl Tryz.func88 dw rfl #[.pointer (some ⟨g, 0, none⟩), .int .i64 (wrap64 ((a1.size : Int) + 1))] rfl lV ?_; (with_reducible refine (az.calls g ax gX gu (wrap64 ((a1.size : Int) + 1)) nG Jb Jc w0 _ ?side1 ?side2 A3.out).mono ?_); (case side1 => exact lW); (case side2 => exact lY); rintro e w44 ⟨rfl, hi, hb, hk⟩; refine ⟨_, rfl, ?_⟩; replace HK := am (aQ.trans lX hk (.inl rfl)); replace HB := am hb; replace HI0 := am hi; (try clear hb); (try clear hb2); (try clear hk); (try clear hi)) | ((with_reducible refine aW (f := 88) rfl ?_); refine dU (some 12) rfl rfl Tryz.func88 dw rfl #[.pointer (some ⟨g, 0, none⟩), .int .i64 8] rfl lV ?_; (with_reducible refine (az.calls g ax Jb Jc 8 xK BI BJ w0 _ ?side1 ?side2 A4.out).mono ?_); (case side1 => exact lW); (case side2 => exact lY); rintro e w45 ⟨rfl, hi, hb, hk⟩; refine ⟨_, rfl, ?_⟩; replace HK := am (aQ.trans lX hk (.inl rfl)); replace HB := am hb; replace HI0 := am hi; (try clear hb); (try clear hb2); (try clear hk); (try clear hi)))
           replace HI0 := am (aG.drew HI0.out)
           replace HK := am (rf HK.out)
           replace HB := am (dQ HB.out)
           refine Ej (n := 13) (S := fun w' => True) (ds := []) #[false, false, false, false, false, false, false, false, false, false, false, false, false] dw rfl rfl trivial (fun hHeld => ?_); refine um dn.tab9 dn.bits9 (fun uC Qu => ?_)
           generalize w45.drew = w46 at HI0 HK HB hHeld ⊢
           refine pz 0 37 ?_
           refine pz 1 38 ?_
           refine pz 2 39 ?_
           refine pz 3 40 ?_
           refine pz 7 44 ?_
           refine pz 8 45 ?_
           refine pz 9 46 ?_
           refine pz 10 47 ?_
           refine vg (i := 4) (N := some 41) #[true, true, true, true, true, false, false, true, true, true, true, false, false] rfl rfl (lG uC.out dw) dY (fun K hK => ?_)
           refine Kd.yE Kd.string _ 9 ?hg (N := 41) ?hd (xs := ([(⟨#[48]⟩ : ByteArray), (⟨#[65]⟩ : ByteArray), (⟨#[0]⟩ : ByteArray), (⟨#[57]⟩ : ByteArray), (⟨#[93]⟩ : ByteArray), (⟨#[92]⟩ : ByteArray)] : List ByteArray)) (inner := [.string (⟨#[48]⟩ : ByteArray), .string (⟨#[65]⟩ : ByteArray), .string (⟨#[0]⟩ : ByteArray), .string (⟨#[57]⟩ : ByteArray), .string (⟨#[93]⟩ : ByteArray), .string (⟨#[92]⟩ : ByteArray)]) (ok := fun _ => True) (okp := fun _ => True) ?hr ?hp (fun _ hk => hk) trivial (Below.refl _ _) (Nat.le_refl _) gB ?_; (case hd => rfl); (case hg => rfl); (case hr => exact oI); (case hp => exact G9)
           intro v614 w47 YQ hb xH jf
           clear xH jf
           (first | rw [← Ny613.out] at YQ | (simp only [Int.reduceToNat] at YQ; rw [← Ny613.out] at YQ))
           have KQ := am (Kd.iT YQ (gz (w := w) (g := g) (row := none) lX))
           replace HK := am (kb lX hb)
           replace HB := am (bK lY hb)
           replace HI0 := am (aG.below lW hb)
           clear hb YQ
           obtain ⟨Ao49, co49, eo49⟩ := Kd.iK KQ.out
           (first | subst eo49 | (injection eo49 with I4 Qw I5; have Qx := I4.symm; have Qy := I5.symm; clear I4 Qw I5; subst Qx; subst Qy))
           refine hK.out _ _ trivial (fun hHeld => ?_)
           clear hK K
           refine kM (a' := ?_) ?_ ?_
           rotate_left
           ·show Act.put _ (some 41) _ = _
            simp only [Act.put, List.setIfInBounds_toArray, List.set_cons_zero, List.set_cons_succ, jG, jL]
            rfl
           refine vg (i := 5) (N := some 42) #[true, true, true, true, true, true, false, true, true, true, true, false, false] rfl rfl (lG uC.out dw) dY (fun K hK => ?_)
           refine wL Tryz.func87 dw rfl #[.pointer (some ⟨g, 0, none⟩), .slice Ao49 y613.length co49] (by rfl) rfl rfl lV ?_
           with_reducible refine (cO.calls g ax BI BJ _ _ y613 YN YO YP w0 _ ?side1 ?side2 ?side3 ?side4 ?side5 A35.out).mono ?_
           (case side1 => exact lW)
           (case side2 => exact lY)
           (case side3 => repeat (first | exact (Kd.eG KQ.out).2.2 | (with_reducible refine Kd.rC ?_ _) | (with_reducible refine Kd.rD ?_ _) | (with_reducible refine Kd.uz ?_)))
           (case side4 => exact (Kd.eG KQ.out).2.1)
           (case side5 => exact lg (aG.own_ne HI0.out KQ.out dY))
           rintro e w50 ⟨rfl, hi, hb, hk⟩
           refine ⟨_, rfl, ?_⟩
           replace KQ := am (kz (aG.apart (show aG w0 _ g ax BI BJ from lW) (zR KQ.out) dY) hk)
           replace HK := am (aQ.trans lX hk (.inl rfl))
           replace HB := am hb
           replace HI0 := am hi
           (try clear hb)
           (try clear hb2)
           (try clear hk)
           (try clear hi)
           refine hK.out _ _ trivial (fun hHeld => ?_)
           clear hK K
           refine kM (a' := ?_) ?_ ?_
           rotate_left
           ·show Act.put _ (some 42) _ = _
            simp only [Act.put, List.setIfInBounds_toArray, List.set_cons_zero, List.set_cons_succ, jG, jL]
            rfl
           refine pz 6 43 ?_
           refine pz 11 48 ?_
           refine pz 12 4 ?_
           refine KE (Ae uC.out dw) ?_
           try go_wp2
           go_ret
           exact ⟨(by first | rfl | (simp [jv, jw] <;> rfl) | (simp only [← O5, ← KO, ← I7, ← yu, ← KP]; first | rfl | (simp [jv, jw] <;> rfl)) | (simp [*, jv, jw] <;> rfl)), lW, lY, lX⟩
          ·rw [if_neg c42] at H
           exact absurd H gB
         ·rw [if_neg c40] at H
          exact absurd H gB
        ·rw [if_neg c39] at H
         exact absurd H gB
       ·rw [if_neg Vm] at H
        exact absurd H gB
      ·rw [if_neg Vl] at H
       exact absurd H gB
     ·rw [if_neg c32] at H
      exact absurd H gB
    ·rw [if_neg c31] at H
     have c31b0 : decide (nG < (a1.size : Int)) = false := decide_eq_false c31
     clear c31
     simp only [Option.some.injEq, Prod.mk.injEq] at H
     obtain ⟨rfl, rfl, rfl⟩ := H
     go_enter Tryz.func45, Tryz.ntmps45
     go_wp2_with (first | ((with_reducible refine aW (f := 88) rfl ?_); refine dU (some 10) rfl rfl Tryz.func88 dw rfl #[.pointer (some ⟨g, 0, none⟩), .int .i64 (wrap64 ((a1.size : Int) + 1))] rfl lV ?_; (with_reducible refine (az.calls g ax gX gu (wrap64 ((a1.size : Int) + 1)) nG Jb Jc w0 _ ?side1 ?side2 A3.out).mono ?_); (case side1 => exact lW); (case side2 => exact lY); rintro e w51 ⟨rfl, hi, hb, hk⟩; refine ⟨_, rfl, ?_⟩; replace HK := am (aQ.trans lX hk (.inl rfl)); replace HB := am hb; replace HI0 := am hi; (try clear hb); (try clear hb2); (try clear hk); (try clear hi)) | ((with_reducible refine aW (f := 88) rfl ?_); refine dU (some 12) rfl rfl Tryz.func88 dw rfl #[.pointer (some ⟨g, 0, none⟩), .int .i64 8] rfl lV ?_; (with_reducible refine (az.calls g ax Jb Jc 8 xK BI BJ w0 _ ?side1 ?side2 A4.out).mono ?_); (case side1 => exact lW); (case side2 => exact lY); rintro e O6 ⟨rfl, hi, hb, hk⟩; refine ⟨_, rfl, ?_⟩; replace HK := am (aQ.trans lX hk (.inl rfl)); replace HB := am hb; replace HI0 := am hi; (try clear hb); (try clear hb2); (try clear hk); (try clear hi)))
     go_ret
     exact ⟨pY, lW, lY, lX⟩
   ·rw [if_neg OC] at H
    have c30b0 : (xK == 2) = false := beq_eq_false_iff_ne.mpr OC
    have c30b1 : (xK != 2) = true := bne_iff_ne.mpr OC
    simp only [Option.some.injEq, Prod.mk.injEq] at H
    obtain ⟨rfl, rfl, rfl⟩ := H
    go_enter Tryz.func45, Tryz.ntmps45
    go_wp2_with (first | ((with_reducible refine aW (f := 88) rfl ?_); refine dU (some 10) rfl rfl Tryz.func88 dw rfl #[.pointer (some ⟨g, 0, none⟩), .int .i64 (wrap64 ((a1.size : Int) + 1))] rfl lV ?_; (with_reducible refine (az.calls g ax gX gu (wrap64 ((a1.size : Int) + 1)) nG Jb Jc w0 _ ?side1 ?side2 A3.out).mono ?_); (case side1 => exact lW); (case side2 => exact lY); rintro e w53 ⟨rfl, hi, hb, hk⟩; refine ⟨_, rfl, ?_⟩; replace HK := am (aQ.trans lX hk (.inl rfl)); replace HB := am hb; replace HI0 := am hi; (try clear hb); (try clear hb2); (try clear hk); (try clear hi)) | ((with_reducible refine aW (f := 88) rfl ?_); refine dU (some 12) rfl rfl Tryz.func88 dw rfl #[.pointer (some ⟨g, 0, none⟩), .int .i64 8] rfl lV ?_; (with_reducible refine (az.calls g ax Jb Jc 8 xK BI BJ w0 _ ?side1 ?side2 A4.out).mono ?_); (case side1 => exact lW); (case side2 => exact lY); rintro e w54 ⟨rfl, hi, hb, hk⟩; refine ⟨_, rfl, ?_⟩; replace HK := am (aQ.trans lX hk (.inl rfl)); replace HB := am hb; replace HI0 := am hi; (try clear hb); (try clear hb2); (try clear hk); (try clear hi)))
    go_ret
    exact ⟨pY, lW, lY, lX⟩
end Go.Proofs.YtieohddolkeegaaGreatDoor.G

end
section
namespace Go.Proofs.YtieohddolkeegaaGreatDoor.G
open Go.RowKit Go.Proofs.aA.aZ Go.Proofs.aA.jM Go.Proofs.aA.mW
attribute [local go_sem] qj ql uO uP o8 o9 qm qo
attribute [local go_sem high] Go.Proofs.YtieohddolkeegaaGreatDoor.G.sH Go.Proofs.YtieohddolkeegaaGreatDoor.G.sJ Go.Proofs.YtieohddolkeegaaGreatDoor.G.sK
set_option linter.unusedVariables false
set_option linter.unusedSimpArgs false
attribute [local go_sem high] eqA67
def bD.l0 : Nat → List (iR) → List (iR) → Int → Option (Bool)
 | 0, _, _, _ => none
 | k + 1, x0, x1, x5 => if x5 < (x0.length : Int) then (if 0 ≤ x5 then (if x5 < (x1.length : Int) then (if (!((((dS x0 x5).f0).toList) == (((dS x1 x5).f0).toList)) || (!((((dS x0 x5).f1).toList) == (((dS x1 x5).f1).toList)))) = true then (some false) else (bD.l0 k x0 x1 (wrap64 (x5 + 1)))) else (none)) else (none)) else (some true)
def bD.f (k : Nat) (l0 : List (iR)) (l1 : List (iR)) : Option (Bool) := if (l0.length : Int) = (l1.length : Int) then (bD.l0 k l0 l1 0) else (some false)
theorem bD.dV : ∀ k, (∀ y0 y1 y2, bz (bD.l0 k y0 y1 y2) (bD.l0 (k + 1) y0 y1 y2))
 | 0 => fun _ _ _ r h => by simp [bD.l0] at h
 | k + 1 => by
  have kF := bD.dV k
  ·intro y0 y1 y2
   unfold bD.l0
   repeat' first
   | (with_reducible first | exact kF _ _ _ | exact bz.refl _ | exact bz.none _ | refine bz.ite ?_ ?_ | refine bz.bind ?_ (fun _ => ?_))
theorem bD.mono : ∀ a0 a1 k, bz (bD.f k a0 a1) (bD.f (k + 1) a0 a1) := by
 intro a0 a1 k
 have kF := bD.dV k
 unfold bD.f
 repeat' first
   | (with_reducible first | exact kF _ _ _ | exact bz.refl _ | exact bz.none _ | refine bz.ite ?_ ?_ | refine bz.bind ?_ (fun _ => ?_))
end Go.Proofs.YtieohddolkeegaaGreatDoor.G

end
