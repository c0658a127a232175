-- PRINTED by print.py (a twelfth state) out of the translation. Not trusted: Lean checks it.
import Derived.Test.YtgfaphlpkjikkaaDoorG0
import Derived.Test.YtgfaphlpkjikkaaDoorGspecPutBase64
import Derived.Test.YtgfaphlpkjikkaaDoorGspecGetBase64
import Derived.Test.YtgfaphlpkjikkaaDoorGimplPutBase64
import Derived.Test.YtgfaphlpkjikkaaDoorGimplGetBase64
import Derived.Test.YtgfaphlpkjikkaaDoorGspecPutPercent
import Derived.Test.YtgfaphlpkjikkaaDoorGimplPutHex
import Derived.Test.YtgfaphlpkjikkaaDoorGimplPutPercent
import Derived.Test.YtgfaphlpkjikkaaDoorGspecGetPercent
import Derived.Test.YtgfaphlpkjikkaaDoorGimplGetHex
import Derived.Test.YtgfaphlpkjikkaaDoorGimplGetPercent
import Derived.Test.YtgfaphlpkjikkaaDoorGlawsbig
import Derived.Test.YtgfaphlpkjikkaaDoorGspecDrawPutHex
import Derived.Test.YtgfaphlpkjikkaaDoorGspecDrawPutBase64
import Derived.Test.YtgfaphlpkjikkaaDoorGspecDrawPutPercent
import Derived.Test.YtgfaphlpkjikkaaDoorGspecPutHex
import Derived.Test.YtgfaphlpkjikkaaDoorGspecDrawGetHex
import Derived.Test.YtgfaphlpkjikkaaDoorGspecDrawGetBase64
import Derived.Test.YtgfaphlpkjikkaaDoorGspecDrawGetPercent
import Derived.Test.YtgfaphlpkjikkaaDoorGspecGetHex
namespace Go.Proofs.YtgfaphlpkjikkaaDoor.G
open Go.RowKit Go.Proofs.YtgfaphlpkjikkaaDoorW.PrintWords Go.Proofs.YtgfaphlpkjikkaaDoorW.PrintLast Go.Proofs.YtgfaphlpkjikkaaDoorW.PrintMore
attribute [local go_sem] max2_int min2_int max_two min_two max_three min_three max_four min_four   -- for this text's walks alone
attribute [local go_sem high] Go.Proofs.YtgfaphlpkjikkaaDoor.G.str_gtr Go.Proofs.YtgfaphlpkjikkaaDoor.G.str_leq Go.Proofs.YtgfaphlpkjikkaaDoor.G.str_geq
set_option linter.unusedVariables false
set_option linter.unusedSimpArgs false

/-! ### laws_FnCodes: function 14 -/
mutual
def laws_FnCodes.j0 : Nat → ByteArray → ByteArray → ByteArray → ByteArray → ByteArray → ByteArray → ByteArray → ByteArray → ByteArray → ByteArray → Bool → ByteArray → Bool → ByteArray → Bool → Bool → Option (Bool)
 | 0, _, _, _, _, _, _, _, _, _, _, _, _, _, _, _, _ => none
 | k + 1, x3, x4, x5, x6, x7, x8, x9, x10, x11, x12, x13, x16, x17, x20, x21, x125 => if x125 = true then (some false) else (if x13 = true then ((impl_PutHex.f k x12).bind fun t681 => (if t681.toList = x9.toList then (if x17 = true then ((impl_PutBase64.f k x16).bind fun t682 => (if t682.toList = x10.toList then (if x21 = true then ((impl_PutPercent.f k x20).bind fun t683 => (laws_FnCodes.j1 k x3 x4 x5 x6 x7 x8 (t683.toList != x11.toList))) else (laws_FnCodes.j1 k x3 x4 x5 x6 x7 x8 false)) else (laws_FnCodes.j1 k x3 x4 x5 x6 x7 x8 true))) else (if x21 = true then ((impl_PutPercent.f k x20).bind fun t684 => (laws_FnCodes.j1 k x3 x4 x5 x6 x7 x8 (t684.toList != x11.toList))) else (laws_FnCodes.j1 k x3 x4 x5 x6 x7 x8 false))) else (laws_FnCodes.j1 k x3 x4 x5 x6 x7 x8 true))) else (if x17 = true then ((impl_PutBase64.f k x16).bind fun t685 => (if t685.toList = x10.toList then (if x21 = true then ((impl_PutPercent.f k x20).bind fun t686 => (laws_FnCodes.j1 k x3 x4 x5 x6 x7 x8 (t686.toList != x11.toList))) else (laws_FnCodes.j1 k x3 x4 x5 x6 x7 x8 false)) else (laws_FnCodes.j1 k x3 x4 x5 x6 x7 x8 true))) else (if x21 = true then ((impl_PutPercent.f k x20).bind fun t687 => (laws_FnCodes.j1 k x3 x4 x5 x6 x7 x8 (t687.toList != x11.toList))) else (laws_FnCodes.j1 k x3 x4 x5 x6 x7 x8 false))))
def laws_FnCodes.j1 : Nat → ByteArray → ByteArray → ByteArray → ByteArray → ByteArray → ByteArray → Bool → Option (Bool)
 | 0, _, _, _, _, _, _, _ => none
 | k + 1, x3, x4, x5, x6, x7, x8, x150 => if x150 = true then (some false) else ((impl_GetHex.f k x6).bind fun bt688 => ((impl_GetBase64.f k x7).bind fun bt690 => ((impl_GetPercent.f k x8).bind fun bt692 => (if bt688.2 = true then (if bt690.2 = true then (if bt692.2 = true then (if bt688.1.toList = x3.toList then (if bt690.1.toList = x4.toList then (if bt692.1.toList = x5.toList then (some (((x7.size : Int) % 4) == 0)) else (some false)) else (some false)) else (some false)) else (some false)) else (some false)) else (some false)))))
end
def laws_FnCodes.f (k : Nat) (l0 : List Int) : Option (Bool) := (laws_big.f l0).bind fun t656 => (if t656 = true then (some true) else ((spec_DrawPutHex.f k l0).bind fun t657 => ((spec_DrawPutBase64.f k l0).bind fun t658 => ((spec_DrawPutPercent.f k l0).bind fun t659 => ((impl_PutHex.f k t657).bind fun t660 => ((impl_PutBase64.f k t658).bind fun t661 => ((impl_PutPercent.f k t659).bind fun t662 => ((spec_DrawGetHex.f k l0).bind fun t663 => ((spec_DrawGetBase64.f k l0).bind fun t664 => ((spec_DrawGetPercent.f k l0).bind fun t665 => ((impl_GetHex.f k t663).bind fun bt666 => ((spec_GetHex.f k t663).bind fun bt668 => ((impl_GetBase64.f k t664).bind fun bt670 => ((spec_GetBase64.f k t664).bind fun bt672 => ((impl_GetPercent.f k t665).bind fun bt674 => ((spec_GetPercent.f k t665).bind fun bt676 => ((spec_PutHex.f k t657).bind fun t678 => (if t660.toList = t678.toList then ((spec_PutBase64.f k t658).bind fun t679 => (if t661.toList = t679.toList then ((spec_PutPercent.f k t659).bind fun t680 => (if t662.toList = t680.toList then (if bt666.1.toList = bt668.1.toList then (if (bt666.2 != bt668.2) = true then (laws_FnCodes.j0 k t657 t658 t659 t660 t661 t662 t663 t664 t665 bt666.1 bt666.2 bt670.1 bt670.2 bt674.1 bt674.2 true) else (if bt670.1.toList = bt672.1.toList then (if (bt670.2 != bt672.2) = true then (laws_FnCodes.j0 k t657 t658 t659 t660 t661 t662 t663 t664 t665 bt666.1 bt666.2 bt670.1 bt670.2 bt674.1 bt674.2 true) else (if bt674.1.toList = bt676.1.toList then (laws_FnCodes.j0 k t657 t658 t659 t660 t661 t662 t663 t664 t665 bt666.1 bt666.2 bt670.1 bt670.2 bt674.1 bt674.2 (bt674.2 != bt676.2)) else (laws_FnCodes.j0 k t657 t658 t659 t660 t661 t662 t663 t664 t665 bt666.1 bt666.2 bt670.1 bt670.2 bt674.1 bt674.2 true))) else (laws_FnCodes.j0 k t657 t658 t659 t660 t661 t662 t663 t664 t665 bt666.1 bt666.2 bt670.1 bt670.2 bt674.1 bt674.2 true))) else (laws_FnCodes.j0 k t657 t658 t659 t660 t661 t662 t663 t664 t665 bt666.1 bt666.2 bt670.1 bt670.2 bt674.1 bt674.2 true)) else (laws_FnCodes.j0 k t657 t658 t659 t660 t661 t662 t663 t664 t665 bt666.1 bt666.2 bt670.1 bt670.2 bt674.1 bt674.2 true))) else (laws_FnCodes.j0 k t657 t658 t659 t660 t661 t662 t663 t664 t665 bt666.1 bt666.2 bt670.1 bt670.2 bt674.1 bt674.2 true))) else (laws_FnCodes.j0 k t657 t658 t659 t660 t661 t662 t663 t664 t665 bt666.1 bt666.2 bt670.1 bt670.2 bt674.1 bt674.2 true)))))))))))))))))))
theorem laws_FnCodes.mono_l : ∀ k, (∀ y0 y1 y2 y3 y4 y5 y6 y7 y8 y9 y10 y11 y12 y13 y14 y15, LeO (laws_FnCodes.j0 k y0 y1 y2 y3 y4 y5 y6 y7 y8 y9 y10 y11 y12 y13 y14 y15) (laws_FnCodes.j0 (k + 1) y0 y1 y2 y3 y4 y5 y6 y7 y8 y9 y10 y11 y12 y13 y14 y15)) ∧ (∀ y0 y1 y2 y3 y4 y5 y6, LeO (laws_FnCodes.j1 k y0 y1 y2 y3 y4 y5 y6) (laws_FnCodes.j1 (k + 1) y0 y1 y2 y3 y4 y5 y6))
 | 0 => ⟨fun _ _ _ _ _ _ _ _ _ _ _ _ _ _ _ _ r h => by simp [laws_FnCodes.j0] at h, fun _ _ _ _ _ _ _ r h => by simp [laws_FnCodes.j1] at h⟩
 | k + 1 => by
  obtain ⟨ih0, ih1⟩ := laws_FnCodes.mono_l k
  refine ⟨?_, ?_⟩
  ·intro y0 y1 y2 y3 y4 y5 y6 y7 y8 y9 y10 y11 y12 y13 y14 y15
   unfold laws_FnCodes.j0
   repeat' first
   | (with_reducible exact ih0 _ _ _ _ _ _ _ _ _ _ _ _ _ _ _ _)
   | (with_reducible exact ih1 _ _ _ _ _ _ _)
   | (with_reducible exact impl_GetBase64.mono _ _)
   | (with_reducible exact impl_GetHex.mono _ _)
   | (with_reducible exact impl_GetPercent.mono _ _)
   | (with_reducible exact impl_PutBase64.mono _ _)
   | (with_reducible exact impl_PutHex.mono _ _)
   | (with_reducible exact impl_PutPercent.mono _ _)
   | (with_reducible exact spec_DrawGetBase64.mono _ _)
   | (with_reducible exact spec_DrawGetHex.mono _ _)
   | (with_reducible exact spec_DrawGetPercent.mono _ _)
   | (with_reducible exact spec_DrawPutBase64.mono _ _)
   | (with_reducible exact spec_DrawPutHex.mono _ _)
   | (with_reducible exact spec_DrawPutPercent.mono _ _)
   | (with_reducible exact spec_GetBase64.mono _ _)
   | (with_reducible exact spec_GetHex.mono _ _)
   | (with_reducible exact spec_GetPercent.mono _ _)
   | (with_reducible exact spec_PutBase64.mono _ _)
   | (with_reducible exact spec_PutHex.mono _ _)
   | (with_reducible exact spec_PutPercent.mono _ _)
   | (with_reducible exact LeO.refl _)
   | (with_reducible exact LeO.none _)
   | (with_reducible refine LeO.ite ?_ ?_)
   | (with_reducible refine LeO.bind ?_ (fun _ => ?_))
   | exact ih0 _ _ _ _ _ _ _ _ _ _ _ _ _ _ _ _
   | exact ih1 _ _ _ _ _ _ _
   | exact impl_GetBase64.mono _ _
   | exact impl_GetHex.mono _ _
   | exact impl_GetPercent.mono _ _
   | exact impl_PutBase64.mono _ _
   | exact impl_PutHex.mono _ _
   | exact impl_PutPercent.mono _ _
   | exact spec_DrawGetBase64.mono _ _
   | exact spec_DrawGetHex.mono _ _
   | exact spec_DrawGetPercent.mono _ _
   | exact spec_DrawPutBase64.mono _ _
   | exact spec_DrawPutHex.mono _ _
   | exact spec_DrawPutPercent.mono _ _
   | exact spec_GetBase64.mono _ _
   | exact spec_GetHex.mono _ _
   | exact spec_GetPercent.mono _ _
   | exact spec_PutBase64.mono _ _
   | exact spec_PutHex.mono _ _
   | exact spec_PutPercent.mono _ _
   | exact LeO.none _
   | refine LeO.ite ?_ ?_
   | refine LeO.bind ?_ (fun _ => ?_)
  ·intro y0 y1 y2 y3 y4 y5 y6
   unfold laws_FnCodes.j1
   repeat' first
   | (with_reducible exact ih0 _ _ _ _ _ _ _ _ _ _ _ _ _ _ _ _)
   | (with_reducible exact ih1 _ _ _ _ _ _ _)
   | (with_reducible exact impl_GetBase64.mono _ _)
   | (with_reducible exact impl_GetHex.mono _ _)
   | (with_reducible exact impl_GetPercent.mono _ _)
   | (with_reducible exact impl_PutBase64.mono _ _)
   | (with_reducible exact impl_PutHex.mono _ _)
   | (with_reducible exact impl_PutPercent.mono _ _)
   | (with_reducible exact spec_DrawGetBase64.mono _ _)
   | (with_reducible exact spec_DrawGetHex.mono _ _)
   | (with_reducible exact spec_DrawGetPercent.mono _ _)
   | (with_reducible exact spec_DrawPutBase64.mono _ _)
   | (with_reducible exact spec_DrawPutHex.mono _ _)
   | (with_reducible exact spec_DrawPutPercent.mono _ _)
   | (with_reducible exact spec_GetBase64.mono _ _)
   | (with_reducible exact spec_GetHex.mono _ _)
   | (with_reducible exact spec_GetPercent.mono _ _)
   | (with_reducible exact spec_PutBase64.mono _ _)
   | (with_reducible exact spec_PutHex.mono _ _)
   | (with_reducible exact spec_PutPercent.mono _ _)
   | (with_reducible exact LeO.refl _)
   | (with_reducible exact LeO.none _)
   | (with_reducible refine LeO.ite ?_ ?_)
   | (with_reducible refine LeO.bind ?_ (fun _ => ?_))
   | exact ih0 _ _ _ _ _ _ _ _ _ _ _ _ _ _ _ _
   | exact ih1 _ _ _ _ _ _ _
   | exact impl_GetBase64.mono _ _
   | exact impl_GetHex.mono _ _
   | exact impl_GetPercent.mono _ _
   | exact impl_PutBase64.mono _ _
   | exact impl_PutHex.mono _ _
   | exact impl_PutPercent.mono _ _
   | exact spec_DrawGetBase64.mono _ _
   | exact spec_DrawGetHex.mono _ _
   | exact spec_DrawGetPercent.mono _ _
   | exact spec_DrawPutBase64.mono _ _
   | exact spec_DrawPutHex.mono _ _
   | exact spec_DrawPutPercent.mono _ _
   | exact spec_GetBase64.mono _ _
   | exact spec_GetHex.mono _ _
   | exact spec_GetPercent.mono _ _
   | exact spec_PutBase64.mono _ _
   | exact spec_PutHex.mono _ _
   | exact spec_PutPercent.mono _ _
   | exact LeO.none _
   | refine LeO.ite ?_ ?_
   | refine LeO.bind ?_ (fun _ => ?_)
theorem laws_FnCodes.mono : ∀ a0 k, LeO (laws_FnCodes.f k a0) (laws_FnCodes.f (k + 1) a0) := by
 intro a0 k
 obtain ⟨ih0, ih1⟩ := laws_FnCodes.mono_l k
 unfold laws_FnCodes.f
 repeat' first
   | (with_reducible exact ih0 _ _ _ _ _ _ _ _ _ _ _ _ _ _ _ _)
   | (with_reducible exact ih1 _ _ _ _ _ _ _)
   | (with_reducible exact impl_GetBase64.mono _ _)
   | (with_reducible exact impl_GetHex.mono _ _)
   | (with_reducible exact impl_GetPercent.mono _ _)
   | (with_reducible exact impl_PutBase64.mono _ _)
   | (with_reducible exact impl_PutHex.mono _ _)
   | (with_reducible exact impl_PutPercent.mono _ _)
   | (with_reducible exact spec_DrawGetBase64.mono _ _)
   | (with_reducible exact spec_DrawGetHex.mono _ _)
   | (with_reducible exact spec_DrawGetPercent.mono _ _)
   | (with_reducible exact spec_DrawPutBase64.mono _ _)
   | (with_reducible exact spec_DrawPutHex.mono _ _)
   | (with_reducible exact spec_DrawPutPercent.mono _ _)
   | (with_reducible exact spec_GetBase64.mono _ _)
   | (with_reducible exact spec_GetHex.mono _ _)
   | (with_reducible exact spec_GetPercent.mono _ _)
   | (with_reducible exact spec_PutBase64.mono _ _)
   | (with_reducible exact spec_PutHex.mono _ _)
   | (with_reducible exact spec_PutPercent.mono _ _)
   | (with_reducible exact LeO.refl _)
   | (with_reducible exact LeO.none _)
   | (with_reducible refine LeO.ite ?_ ?_)
   | (with_reducible refine LeO.bind ?_ (fun _ => ?_))
   | exact ih0 _ _ _ _ _ _ _ _ _ _ _ _ _ _ _ _
   | exact ih1 _ _ _ _ _ _ _
   | exact impl_GetBase64.mono _ _
   | exact impl_GetHex.mono _ _
   | exact impl_GetPercent.mono _ _
   | exact impl_PutBase64.mono _ _
   | exact impl_PutHex.mono _ _
   | exact impl_PutPercent.mono _ _
   | exact spec_DrawGetBase64.mono _ _
   | exact spec_DrawGetHex.mono _ _
   | exact spec_DrawGetPercent.mono _ _
   | exact spec_DrawPutBase64.mono _ _
   | exact spec_DrawPutHex.mono _ _
   | exact spec_DrawPutPercent.mono _ _
   | exact spec_GetBase64.mono _ _
   | exact spec_GetHex.mono _ _
   | exact spec_GetPercent.mono _ _
   | exact spec_PutBase64.mono _ _
   | exact spec_PutHex.mono _ _
   | exact spec_PutPercent.mono _ _
   | exact LeO.none _
   | refine LeO.ite ?_ ?_
   | refine LeO.bind ?_ (fun _ => ?_)
theorem laws_FnCodes.j0_true (k : Nat) (y0 : ByteArray) (y1 : ByteArray) (y2 : ByteArray) (y3 : ByteArray) (y4 : ByteArray) (y5 : ByteArray) (y6 : ByteArray) (y7 : ByteArray) (y8 : ByteArray) (y9 : ByteArray) (y10 : Bool) (y11 : ByteArray) (y12 : Bool) (y13 : ByteArray) (y14 : Bool) {r : Bool} (h : laws_FnCodes.j0 k y0 y1 y2 y3 y4 y5 y6 y7 y8 y9 y10 y11 y12 y13 y14 true = some r) : r = false := by
  cases k with
  | zero => simp [laws_FnCodes.j0] at h
  | succ k => rw [laws_FnCodes.j0, if_pos rfl] at h; exact (Option.some.inj h).symm
theorem laws_FnCodes.j1_true (k : Nat) (y0 : ByteArray) (y1 : ByteArray) (y2 : ByteArray) (y3 : ByteArray) (y4 : ByteArray) (y5 : ByteArray) {r : Bool} (h : laws_FnCodes.j1 k y0 y1 y2 y3 y4 y5 true = some r) : r = false := by
  cases k with
  | zero => simp [laws_FnCodes.j1] at h
  | succ k => rw [laws_FnCodes.j1, if_pos rfl] at h; exact (Option.some.inj h).symm
set_option maxHeartbeats 8000000 in
set_option maxRecDepth 100000 in
theorem laws_FnCodes.calls (k : Nat) (A0 : Option Addr) (c0 : Nat) (l0 : List Int) (r : Bool) (w : World) (hr0 : Kd.C (Kd.int .u8) w A0 l0.length l0) (hc0 : l0.length ≤ c0) (hGC : Glob FactC w) (hr_ : r = true) (h : laws_FnCodes.f k l0 = some r) :
  Calls Tryd.prog 14 #[.slice A0 l0.length c0] w fun e w' => e = .returned (.bool r) ∧ Below w.heap.size w w' := by
 have HR0 := Aside0.mk hr0
 have HC0 := Aside0.mk hc0
 clear hr0 hc0
 have HB := Aside0.mk (Below.refl w.heap.size w)
 have HGC := Aside0.mk hGC
 clear hGC
 have H : ((laws_big.f l0).bind fun t656 => (if t656 = true then (some true) else ((spec_DrawPutHex.f k l0).bind fun t657 => ((spec_DrawPutBase64.f k l0).bind fun t658 => ((spec_DrawPutPercent.f k l0).bind fun t659 => ((impl_PutHex.f k t657).bind fun t660 => ((impl_PutBase64.f k t658).bind fun t661 => ((impl_PutPercent.f k t659).bind fun t662 => ((spec_DrawGetHex.f k l0).bind fun t663 => ((spec_DrawGetBase64.f k l0).bind fun t664 => ((spec_DrawGetPercent.f k l0).bind fun t665 => ((impl_GetHex.f k t663).bind fun bt666 => ((spec_GetHex.f k t663).bind fun bt668 => ((impl_GetBase64.f k t664).bind fun bt670 => ((spec_GetBase64.f k t664).bind fun bt672 => ((impl_GetPercent.f k t665).bind fun bt674 => ((spec_GetPercent.f k t665).bind fun bt676 => ((spec_PutHex.f k t657).bind fun t678 => (if t660.toList = t678.toList then ((spec_PutBase64.f k t658).bind fun t679 => (if t661.toList = t679.toList then ((spec_PutPercent.f k t659).bind fun t680 => (if t662.toList = t680.toList then (if bt666.1.toList = bt668.1.toList then (if (bt666.2 != bt668.2) = true then (laws_FnCodes.j0 k t657 t658 t659 t660 t661 t662 t663 t664 t665 bt666.1 bt666.2 bt670.1 bt670.2 bt674.1 bt674.2 true) else (if bt670.1.toList = bt672.1.toList then (if (bt670.2 != bt672.2) = true then (laws_FnCodes.j0 k t657 t658 t659 t660 t661 t662 t663 t664 t665 bt666.1 bt666.2 bt670.1 bt670.2 bt674.1 bt674.2 true) else (if bt674.1.toList = bt676.1.toList then (laws_FnCodes.j0 k t657 t658 t659 t660 t661 t662 t663 t664 t665 bt666.1 bt666.2 bt670.1 bt670.2 bt674.1 bt674.2 (bt674.2 != bt676.2)) else (laws_FnCodes.j0 k t657 t658 t659 t660 t661 t662 t663 t664 t665 bt666.1 bt666.2 bt670.1 bt670.2 bt674.1 bt674.2 true))) else (laws_FnCodes.j0 k t657 t658 t659 t660 t661 t662 t663 t664 t665 bt666.1 bt666.2 bt670.1 bt670.2 bt674.1 bt674.2 true))) else (laws_FnCodes.j0 k t657 t658 t659 t660 t661 t662 t663 t664 t665 bt666.1 bt666.2 bt670.1 bt670.2 bt674.1 bt674.2 true)) else (laws_FnCodes.j0 k t657 t658 t659 t660 t661 t662 t663 t664 t665 bt666.1 bt666.2 bt670.1 bt670.2 bt674.1 bt674.2 true))) else (laws_FnCodes.j0 k t657 t658 t659 t660 t661 t662 t663 t664 t665 bt666.1 bt666.2 bt670.1 bt670.2 bt674.1 bt674.2 true))) else (laws_FnCodes.j0 k t657 t658 t659 t660 t661 t662 t663 t664 t665 bt666.1 bt666.2 bt670.1 bt670.2 bt674.1 bt674.2 true)))))))))))))))))))) = some r := h
 clear h
 replace H := Option.bind_eq_some_iff.mp H
 obtain ⟨t656, A20, H⟩ := H
 replace H : (if t656 = true then (some true) else ((spec_DrawPutHex.f k l0).bind fun t657 => ((spec_DrawPutBase64.f k l0).bind fun t658 => ((spec_DrawPutPercent.f k l0).bind fun t659 => ((impl_PutHex.f k t657).bind fun t660 => ((impl_PutBase64.f k t658).bind fun t661 => ((impl_PutPercent.f k t659).bind fun t662 => ((spec_DrawGetHex.f k l0).bind fun t663 => ((spec_DrawGetBase64.f k l0).bind fun t664 => ((spec_DrawGetPercent.f k l0).bind fun t665 => ((impl_GetHex.f k t663).bind fun bt666 => ((spec_GetHex.f k t663).bind fun bt668 => ((impl_GetBase64.f k t664).bind fun bt670 => ((spec_GetBase64.f k t664).bind fun bt672 => ((impl_GetPercent.f k t665).bind fun bt674 => ((spec_GetPercent.f k t665).bind fun bt676 => ((spec_PutHex.f k t657).bind fun t678 => (if t660.toList = t678.toList then ((spec_PutBase64.f k t658).bind fun t679 => (if t661.toList = t679.toList then ((spec_PutPercent.f k t659).bind fun t680 => (if t662.toList = t680.toList then (if bt666.1.toList = bt668.1.toList then (if (bt666.2 != bt668.2) = true then (laws_FnCodes.j0 k t657 t658 t659 t660 t661 t662 t663 t664 t665 bt666.1 bt666.2 bt670.1 bt670.2 bt674.1 bt674.2 true) else (if bt670.1.toList = bt672.1.toList then (if (bt670.2 != bt672.2) = true then (laws_FnCodes.j0 k t657 t658 t659 t660 t661 t662 t663 t664 t665 bt666.1 bt666.2 bt670.1 bt670.2 bt674.1 bt674.2 true) else (if bt674.1.toList = bt676.1.toList then (laws_FnCodes.j0 k t657 t658 t659 t660 t661 t662 t663 t664 t665 bt666.1 bt666.2 bt670.1 bt670.2 bt674.1 bt674.2 (bt674.2 != bt676.2)) else (laws_FnCodes.j0 k t657 t658 t659 t660 t661 t662 t663 t664 t665 bt666.1 bt666.2 bt670.1 bt670.2 bt674.1 bt674.2 true))) else (laws_FnCodes.j0 k t657 t658 t659 t660 t661 t662 t663 t664 t665 bt666.1 bt666.2 bt670.1 bt670.2 bt674.1 bt674.2 true))) else (laws_FnCodes.j0 k t657 t658 t659 t660 t661 t662 t663 t664 t665 bt666.1 bt666.2 bt670.1 bt670.2 bt674.1 bt674.2 true)) else (laws_FnCodes.j0 k t657 t658 t659 t660 t661 t662 t663 t664 t665 bt666.1 bt666.2 bt670.1 bt670.2 bt674.1 bt674.2 true))) else (laws_FnCodes.j0 k t657 t658 t659 t660 t661 t662 t663 t664 t665 bt666.1 bt666.2 bt670.1 bt670.2 bt674.1 bt674.2 true))) else (laws_FnCodes.j0 k t657 t658 t659 t660 t661 t662 t663 t664 t665 bt666.1 bt666.2 bt670.1 bt670.2 bt674.1 bt674.2 true))))))))))))))))))) = some r := H
 have A2 := Aside0.mk A20
 clear A20
 by_cases c3 : t656 = true
 ·subst c3
  have H1 : (some true) = some r := by rw [if_pos rfl] at H; exact H
  clear H
  have H := H1
  clear H1
  obtain rfl := Option.some.inj H
  go_enter Tryd.func14, Tryd.ntmps14
  go_wp2_with (first | ((with_reducible refine gate_callee (f := 49) rfl ?_); refine goesL_ (some 31) rfl rfl Tryd.func49 (by kernel_rfl) rfl #[.slice A0 l0.length c0] rfl (by (try simp only [List.map_toArray, List.map_cons, List.map_nil]); first | done | rfl | (simp only [List.length_drop, List.length_take]; rfl)) ?_; (with_reducible refine (laws_big.calls _ _ l0 true _ ?side1 ?side2 A2.out).mono ?_); (case side1 => repeat (first | exact HR0.out | (with_reducible refine Kd.C_alloc ?_ _) | (with_reducible refine Kd.C_drewN ?_ _) | (with_reducible refine Kd.C_drew ?_))); (case side2 => exact HC0.out); rintro e w' ⟨rfl, ⟨nd, rfl⟩⟩; refine ⟨_, rfl, ?_⟩))
  go_ret
  exact ⟨by first | rfl | (simp [errW_none, errW_some] <;> rfl) | (simp [*, errW_none, errW_some] <;> rfl), by repeat (first | (with_reducible first | exact HB.out | apply below_alloc | apply pw_below_drewN | apply below_drew1) | exact HB.out)⟩
 ·replace c3 := Bool.eq_false_iff.mpr c3
  subst c3
  have H1 : ((spec_DrawPutHex.f k l0).bind fun t657 => ((spec_DrawPutBase64.f k l0).bind fun t658 => ((spec_DrawPutPercent.f k l0).bind fun t659 => ((impl_PutHex.f k t657).bind fun t660 => ((impl_PutBase64.f k t658).bind fun t661 => ((impl_PutPercent.f k t659).bind fun t662 => ((spec_DrawGetHex.f k l0).bind fun t663 => ((spec_DrawGetBase64.f k l0).bind fun t664 => ((spec_DrawGetPercent.f k l0).bind fun t665 => ((impl_GetHex.f k t663).bind fun bt666 => ((spec_GetHex.f k t663).bind fun bt668 => ((impl_GetBase64.f k t664).bind fun bt670 => ((spec_GetBase64.f k t664).bind fun bt672 => ((impl_GetPercent.f k t665).bind fun bt674 => ((spec_GetPercent.f k t665).bind fun bt676 => ((spec_PutHex.f k t657).bind fun t678 => (if t660.toList = t678.toList then ((spec_PutBase64.f k t658).bind fun t679 => (if t661.toList = t679.toList then ((spec_PutPercent.f k t659).bind fun t680 => (if t662.toList = t680.toList then (if bt666.1.toList = bt668.1.toList then (if (bt666.2 != bt668.2) = true then (laws_FnCodes.j0 k t657 t658 t659 t660 t661 t662 t663 t664 t665 bt666.1 bt666.2 bt670.1 bt670.2 bt674.1 bt674.2 true) else (if bt670.1.toList = bt672.1.toList then (if (bt670.2 != bt672.2) = true then (laws_FnCodes.j0 k t657 t658 t659 t660 t661 t662 t663 t664 t665 bt666.1 bt666.2 bt670.1 bt670.2 bt674.1 bt674.2 true) else (if bt674.1.toList = bt676.1.toList then (laws_FnCodes.j0 k t657 t658 t659 t660 t661 t662 t663 t664 t665 bt666.1 bt666.2 bt670.1 bt670.2 bt674.1 bt674.2 (bt674.2 != bt676.2)) else (laws_FnCodes.j0 k t657 t658 t659 t660 t661 t662 t663 t664 t665 bt666.1 bt666.2 bt670.1 bt670.2 bt674.1 bt674.2 true))) else (laws_FnCodes.j0 k t657 t658 t659 t660 t661 t662 t663 t664 t665 bt666.1 bt666.2 bt670.1 bt670.2 bt674.1 bt674.2 true))) else (laws_FnCodes.j0 k t657 t658 t659 t660 t661 t662 t663 t664 t665 bt666.1 bt666.2 bt670.1 bt670.2 bt674.1 bt674.2 true)) else (laws_FnCodes.j0 k t657 t658 t659 t660 t661 t662 t663 t664 t665 bt666.1 bt666.2 bt670.1 bt670.2 bt674.1 bt674.2 true))) else (laws_FnCodes.j0 k t657 t658 t659 t660 t661 t662 t663 t664 t665 bt666.1 bt666.2 bt670.1 bt670.2 bt674.1 bt674.2 true))) else (laws_FnCodes.j0 k t657 t658 t659 t660 t661 t662 t663 t664 t665 bt666.1 bt666.2 bt670.1 bt670.2 bt674.1 bt674.2 true)))))))))))))))))) = some r := by rw [if_neg (show ¬ (false = true) by decide)] at H; exact H
  clear H
  have H := H1
  clear H1
  replace H := Option.bind_eq_some_iff.mp H
  obtain ⟨t657, A40, H⟩ := H
  replace H : ((spec_DrawPutBase64.f k l0).bind fun t658 => ((spec_DrawPutPercent.f k l0).bind fun t659 => ((impl_PutHex.f k t657).bind fun t660 => ((impl_PutBase64.f k t658).bind fun t661 => ((impl_PutPercent.f k t659).bind fun t662 => ((spec_DrawGetHex.f k l0).bind fun t663 => ((spec_DrawGetBase64.f k l0).bind fun t664 => ((spec_DrawGetPercent.f k l0).bind fun t665 => ((impl_GetHex.f k t663).bind fun bt666 => ((spec_GetHex.f k t663).bind fun bt668 => ((impl_GetBase64.f k t664).bind fun bt670 => ((spec_GetBase64.f k t664).bind fun bt672 => ((impl_GetPercent.f k t665).bind fun bt674 => ((spec_GetPercent.f k t665).bind fun bt676 => ((spec_PutHex.f k t657).bind fun t678 => (if t660.toList = t678.toList then ((spec_PutBase64.f k t658).bind fun t679 => (if t661.toList = t679.toList then ((spec_PutPercent.f k t659).bind fun t680 => (if t662.toList = t680.toList then (if bt666.1.toList = bt668.1.toList then (if (bt666.2 != bt668.2) = true then (laws_FnCodes.j0 k t657 t658 t659 t660 t661 t662 t663 t664 t665 bt666.1 bt666.2 bt670.1 bt670.2 bt674.1 bt674.2 true) else (if bt670.1.toList = bt672.1.toList then (if (bt670.2 != bt672.2) = true then (laws_FnCodes.j0 k t657 t658 t659 t660 t661 t662 t663 t664 t665 bt666.1 bt666.2 bt670.1 bt670.2 bt674.1 bt674.2 true) else (if bt674.1.toList = bt676.1.toList then (laws_FnCodes.j0 k t657 t658 t659 t660 t661 t662 t663 t664 t665 bt666.1 bt666.2 bt670.1 bt670.2 bt674.1 bt674.2 (bt674.2 != bt676.2)) else (laws_FnCodes.j0 k t657 t658 t659 t660 t661 t662 t663 t664 t665 bt666.1 bt666.2 bt670.1 bt670.2 bt674.1 bt674.2 true))) else (laws_FnCodes.j0 k t657 t658 t659 t660 t661 t662 t663 t664 t665 bt666.1 bt666.2 bt670.1 bt670.2 bt674.1 bt674.2 true))) else (laws_FnCodes.j0 k t657 t658 t659 t660 t661 t662 t663 t664 t665 bt666.1 bt666.2 bt670.1 bt670.2 bt674.1 bt674.2 true)) else (laws_FnCodes.j0 k t657 t658 t659 t660 t661 t662 t663 t664 t665 bt666.1 bt666.2 bt670.1 bt670.2 bt674.1 bt674.2 true))) else (laws_FnCodes.j0 k t657 t658 t659 t660 t661 t662 t663 t664 t665 bt666.1 bt666.2 bt670.1 bt670.2 bt674.1 bt674.2 true))) else (laws_FnCodes.j0 k t657 t658 t659 t660 t661 t662 t663 t664 t665 bt666.1 bt666.2 bt670.1 bt670.2 bt674.1 bt674.2 true))))))))))))))))) = some r := H
  have A4 := Aside0.mk A40
  clear A40
  replace H := Option.bind_eq_some_iff.mp H
  obtain ⟨t658, A50, H⟩ := H
  replace H : ((spec_DrawPutPercent.f k l0).bind fun t659 => ((impl_PutHex.f k t657).bind fun t660 => ((impl_PutBase64.f k t658).bind fun t661 => ((impl_PutPercent.f k t659).bind fun t662 => ((spec_DrawGetHex.f k l0).bind fun t663 => ((spec_DrawGetBase64.f k l0).bind fun t664 => ((spec_DrawGetPercent.f k l0).bind fun t665 => ((impl_GetHex.f k t663).bind fun bt666 => ((spec_GetHex.f k t663).bind fun bt668 => ((impl_GetBase64.f k t664).bind fun bt670 => ((spec_GetBase64.f k t664).bind fun bt672 => ((impl_GetPercent.f k t665).bind fun bt674 => ((spec_GetPercent.f k t665).bind fun bt676 => ((spec_PutHex.f k t657).bind fun t678 => (if t660.toList = t678.toList then ((spec_PutBase64.f k t658).bind fun t679 => (if t661.toList = t679.toList then ((spec_PutPercent.f k t659).bind fun t680 => (if t662.toList = t680.toList then (if bt666.1.toList = bt668.1.toList then (if (bt666.2 != bt668.2) = true then (laws_FnCodes.j0 k t657 t658 t659 t660 t661 t662 t663 t664 t665 bt666.1 bt666.2 bt670.1 bt670.2 bt674.1 bt674.2 true) else (if bt670.1.toList = bt672.1.toList then (if (bt670.2 != bt672.2) = true then (laws_FnCodes.j0 k t657 t658 t659 t660 t661 t662 t663 t664 t665 bt666.1 bt666.2 bt670.1 bt670.2 bt674.1 bt674.2 true) else (if bt674.1.toList = bt676.1.toList then (laws_FnCodes.j0 k t657 t658 t659 t660 t661 t662 t663 t664 t665 bt666.1 bt666.2 bt670.1 bt670.2 bt674.1 bt674.2 (bt674.2 != bt676.2)) else (laws_FnCodes.j0 k t657 t658 t659 t660 t661 t662 t663 t664 t665 bt666.1 bt666.2 bt670.1 bt670.2 bt674.1 bt674.2 true))) else (laws_FnCodes.j0 k t657 t658 t659 t660 t661 t662 t663 t664 t665 bt666.1 bt666.2 bt670.1 bt670.2 bt674.1 bt674.2 true))) else (laws_FnCodes.j0 k t657 t658 t659 t660 t661 t662 t663 t664 t665 bt666.1 bt666.2 bt670.1 bt670.2 bt674.1 bt674.2 true)) else (laws_FnCodes.j0 k t657 t658 t659 t660 t661 t662 t663 t664 t665 bt666.1 bt666.2 bt670.1 bt670.2 bt674.1 bt674.2 true))) else (laws_FnCodes.j0 k t657 t658 t659 t660 t661 t662 t663 t664 t665 bt666.1 bt666.2 bt670.1 bt670.2 bt674.1 bt674.2 true))) else (laws_FnCodes.j0 k t657 t658 t659 t660 t661 t662 t663 t664 t665 bt666.1 bt666.2 bt670.1 bt670.2 bt674.1 bt674.2 true)))))))))))))))) = some r := H
  have A5 := Aside0.mk A50
  clear A50
  replace H := Option.bind_eq_some_iff.mp H
  obtain ⟨t659, A60, H⟩ := H
  replace H : ((impl_PutHex.f k t657).bind fun t660 => ((impl_PutBase64.f k t658).bind fun t661 => ((impl_PutPercent.f k t659).bind fun t662 => ((spec_DrawGetHex.f k l0).bind fun t663 => ((spec_DrawGetBase64.f k l0).bind fun t664 => ((spec_DrawGetPercent.f k l0).bind fun t665 => ((impl_GetHex.f k t663).bind fun bt666 => ((spec_GetHex.f k t663).bind fun bt668 => ((impl_GetBase64.f k t664).bind fun bt670 => ((spec_GetBase64.f k t664).bind fun bt672 => ((impl_GetPercent.f k t665).bind fun bt674 => ((spec_GetPercent.f k t665).bind fun bt676 => ((spec_PutHex.f k t657).bind fun t678 => (if t660.toList = t678.toList then ((spec_PutBase64.f k t658).bind fun t679 => (if t661.toList = t679.toList then ((spec_PutPercent.f k t659).bind fun t680 => (if t662.toList = t680.toList then (if bt666.1.toList = bt668.1.toList then (if (bt666.2 != bt668.2) = true then (laws_FnCodes.j0 k t657 t658 t659 t660 t661 t662 t663 t664 t665 bt666.1 bt666.2 bt670.1 bt670.2 bt674.1 bt674.2 true) else (if bt670.1.toList = bt672.1.toList then (if (bt670.2 != bt672.2) = true then (laws_FnCodes.j0 k t657 t658 t659 t660 t661 t662 t663 t664 t665 bt666.1 bt666.2 bt670.1 bt670.2 bt674.1 bt674.2 true) else (if bt674.1.toList = bt676.1.toList then (laws_FnCodes.j0 k t657 t658 t659 t660 t661 t662 t663 t664 t665 bt666.1 bt666.2 bt670.1 bt670.2 bt674.1 bt674.2 (bt674.2 != bt676.2)) else (laws_FnCodes.j0 k t657 t658 t659 t660 t661 t662 t663 t664 t665 bt666.1 bt666.2 bt670.1 bt670.2 bt674.1 bt674.2 true))) else (laws_FnCodes.j0 k t657 t658 t659 t660 t661 t662 t663 t664 t665 bt666.1 bt666.2 bt670.1 bt670.2 bt674.1 bt674.2 true))) else (laws_FnCodes.j0 k t657 t658 t659 t660 t661 t662 t663 t664 t665 bt666.1 bt666.2 bt670.1 bt670.2 bt674.1 bt674.2 true)) else (laws_FnCodes.j0 k t657 t658 t659 t660 t661 t662 t663 t664 t665 bt666.1 bt666.2 bt670.1 bt670.2 bt674.1 bt674.2 true))) else (laws_FnCodes.j0 k t657 t658 t659 t660 t661 t662 t663 t664 t665 bt666.1 bt666.2 bt670.1 bt670.2 bt674.1 bt674.2 true))) else (laws_FnCodes.j0 k t657 t658 t659 t660 t661 t662 t663 t664 t665 bt666.1 bt666.2 bt670.1 bt670.2 bt674.1 bt674.2 true))))))))))))))) = some r := H
  have A6 := Aside0.mk A60
  clear A60
  replace H := Option.bind_eq_some_iff.mp H
  obtain ⟨t660, A70, H⟩ := H
  replace H : ((impl_PutBase64.f k t658).bind fun t661 => ((impl_PutPercent.f k t659).bind fun t662 => ((spec_DrawGetHex.f k l0).bind fun t663 => ((spec_DrawGetBase64.f k l0).bind fun t664 => ((spec_DrawGetPercent.f k l0).bind fun t665 => ((impl_GetHex.f k t663).bind fun bt666 => ((spec_GetHex.f k t663).bind fun bt668 => ((impl_GetBase64.f k t664).bind fun bt670 => ((spec_GetBase64.f k t664).bind fun bt672 => ((impl_GetPercent.f k t665).bind fun bt674 => ((spec_GetPercent.f k t665).bind fun bt676 => ((spec_PutHex.f k t657).bind fun t678 => (if t660.toList = t678.toList then ((spec_PutBase64.f k t658).bind fun t679 => (if t661.toList = t679.toList then ((spec_PutPercent.f k t659).bind fun t680 => (if t662.toList = t680.toList then (if bt666.1.toList = bt668.1.toList then (if (bt666.2 != bt668.2) = true then (laws_FnCodes.j0 k t657 t658 t659 t660 t661 t662 t663 t664 t665 bt666.1 bt666.2 bt670.1 bt670.2 bt674.1 bt674.2 true) else (if bt670.1.toList = bt672.1.toList then (if (bt670.2 != bt672.2) = true then (laws_FnCodes.j0 k t657 t658 t659 t660 t661 t662 t663 t664 t665 bt666.1 bt666.2 bt670.1 bt670.2 bt674.1 bt674.2 true) else (if bt674.1.toList = bt676.1.toList then (laws_FnCodes.j0 k t657 t658 t659 t660 t661 t662 t663 t664 t665 bt666.1 bt666.2 bt670.1 bt670.2 bt674.1 bt674.2 (bt674.2 != bt676.2)) else (laws_FnCodes.j0 k t657 t658 t659 t660 t661 t662 t663 t664 t665 bt666.1 bt666.2 bt670.1 bt670.2 bt674.1 bt674.2 true))) else (laws_FnCodes.j0 k t657 t658 t659 t660 t661 t662 t663 t664 t665 bt666.1 bt666.2 bt670.1 bt670.2 bt674.1 bt674.2 true))) else (laws_FnCodes.j0 k t657 t658 t659 t660 t661 t662 t663 t664 t665 bt666.1 bt666.2 bt670.1 bt670.2 bt674.1 bt674.2 true)) else (laws_FnCodes.j0 k t657 t658 t659 t660 t661 t662 t663 t664 t665 bt666.1 bt666.2 bt670.1 bt670.2 bt674.1 bt674.2 true))) else (laws_FnCodes.j0 k t657 t658 t659 t660 t661 t662 t663 t664 t665 bt666.1 bt666.2 bt670.1 bt670.2 bt674.1 bt674.2 true))) else (laws_FnCodes.j0 k t657 t658 t659 t660 t661 t662 t663 t664 t665 bt666.1 bt666.2 bt670.1 bt670.2 bt674.1 bt674.2 true)))))))))))))) = some r := H
  have A7 := Aside0.mk A70
  clear A70
  replace H := Option.bind_eq_some_iff.mp H
  obtain ⟨t661, A80, H⟩ := H
  replace H : ((impl_PutPercent.f k t659).bind fun t662 => ((spec_DrawGetHex.f k l0).bind fun t663 => ((spec_DrawGetBase64.f k l0).bind fun t664 => ((spec_DrawGetPercent.f k l0).bind fun t665 => ((impl_GetHex.f k t663).bind fun bt666 => ((spec_GetHex.f k t663).bind fun bt668 => ((impl_GetBase64.f k t664).bind fun bt670 => ((spec_GetBase64.f k t664).bind fun bt672 => ((impl_GetPercent.f k t665).bind fun bt674 => ((spec_GetPercent.f k t665).bind fun bt676 => ((spec_PutHex.f k t657).bind fun t678 => (if t660.toList = t678.toList then ((spec_PutBase64.f k t658).bind fun t679 => (if t661.toList = t679.toList then ((spec_PutPercent.f k t659).bind fun t680 => (if t662.toList = t680.toList then (if bt666.1.toList = bt668.1.toList then (if (bt666.2 != bt668.2) = true then (laws_FnCodes.j0 k t657 t658 t659 t660 t661 t662 t663 t664 t665 bt666.1 bt666.2 bt670.1 bt670.2 bt674.1 bt674.2 true) else (if bt670.1.toList = bt672.1.toList then (if (bt670.2 != bt672.2) = true then (laws_FnCodes.j0 k t657 t658 t659 t660 t661 t662 t663 t664 t665 bt666.1 bt666.2 bt670.1 bt670.2 bt674.1 bt674.2 true) else (if bt674.1.toList = bt676.1.toList then (laws_FnCodes.j0 k t657 t658 t659 t660 t661 t662 t663 t664 t665 bt666.1 bt666.2 bt670.1 bt670.2 bt674.1 bt674.2 (bt674.2 != bt676.2)) else (laws_FnCodes.j0 k t657 t658 t659 t660 t661 t662 t663 t664 t665 bt666.1 bt666.2 bt670.1 bt670.2 bt674.1 bt674.2 true))) else (laws_FnCodes.j0 k t657 t658 t659 t660 t661 t662 t663 t664 t665 bt666.1 bt666.2 bt670.1 bt670.2 bt674.1 bt674.2 true))) else (laws_FnCodes.j0 k t657 t658 t659 t660 t661 t662 t663 t664 t665 bt666.1 bt666.2 bt670.1 bt670.2 bt674.1 bt674.2 true)) else (laws_FnCodes.j0 k t657 t658 t659 t660 t661 t662 t663 t664 t665 bt666.1 bt666.2 bt670.1 bt670.2 bt674.1 bt674.2 true))) else (laws_FnCodes.j0 k t657 t658 t659 t660 t661 t662 t663 t664 t665 bt666.1 bt666.2 bt670.1 bt670.2 bt674.1 bt674.2 true))) else (laws_FnCodes.j0 k t657 t658 t659 t660 t661 t662 t663 t664 t665 bt666.1 bt666.2 bt670.1 bt670.2 bt674.1 bt674.2 true))))))))))))) = some r := H
  have A8 := Aside0.mk A80
  clear A80
  replace H := Option.bind_eq_some_iff.mp H
  obtain ⟨t662, A90, H⟩ := H
  replace H : ((spec_DrawGetHex.f k l0).bind fun t663 => ((spec_DrawGetBase64.f k l0).bind fun t664 => ((spec_DrawGetPercent.f k l0).bind fun t665 => ((impl_GetHex.f k t663).bind fun bt666 => ((spec_GetHex.f k t663).bind fun bt668 => ((impl_GetBase64.f k t664).bind fun bt670 => ((spec_GetBase64.f k t664).bind fun bt672 => ((impl_GetPercent.f k t665).bind fun bt674 => ((spec_GetPercent.f k t665).bind fun bt676 => ((spec_PutHex.f k t657).bind fun t678 => (if t660.toList = t678.toList then ((spec_PutBase64.f k t658).bind fun t679 => (if t661.toList = t679.toList then ((spec_PutPercent.f k t659).bind fun t680 => (if t662.toList = t680.toList then (if bt666.1.toList = bt668.1.toList then (if (bt666.2 != bt668.2) = true then (laws_FnCodes.j0 k t657 t658 t659 t660 t661 t662 t663 t664 t665 bt666.1 bt666.2 bt670.1 bt670.2 bt674.1 bt674.2 true) else (if bt670.1.toList = bt672.1.toList then (if (bt670.2 != bt672.2) = true then (laws_FnCodes.j0 k t657 t658 t659 t660 t661 t662 t663 t664 t665 bt666.1 bt666.2 bt670.1 bt670.2 bt674.1 bt674.2 true) else (if bt674.1.toList = bt676.1.toList then (laws_FnCodes.j0 k t657 t658 t659 t660 t661 t662 t663 t664 t665 bt666.1 bt666.2 bt670.1 bt670.2 bt674.1 bt674.2 (bt674.2 != bt676.2)) else (laws_FnCodes.j0 k t657 t658 t659 t660 t661 t662 t663 t664 t665 bt666.1 bt666.2 bt670.1 bt670.2 bt674.1 bt674.2 true))) else (laws_FnCodes.j0 k t657 t658 t659 t660 t661 t662 t663 t664 t665 bt666.1 bt666.2 bt670.1 bt670.2 bt674.1 bt674.2 true))) else (laws_FnCodes.j0 k t657 t658 t659 t660 t661 t662 t663 t664 t665 bt666.1 bt666.2 bt670.1 bt670.2 bt674.1 bt674.2 true)) else (laws_FnCodes.j0 k t657 t658 t659 t660 t661 t662 t663 t664 t665 bt666.1 bt666.2 bt670.1 bt670.2 bt674.1 bt674.2 true))) else (laws_FnCodes.j0 k t657 t658 t659 t660 t661 t662 t663 t664 t665 bt666.1 bt666.2 bt670.1 bt670.2 bt674.1 bt674.2 true))) else (laws_FnCodes.j0 k t657 t658 t659 t660 t661 t662 t663 t664 t665 bt666.1 bt666.2 bt670.1 bt670.2 bt674.1 bt674.2 true)))))))))))) = some r := H
  have A9 := Aside0.mk A90
  clear A90
  replace H := Option.bind_eq_some_iff.mp H
  obtain ⟨t663, A100, H⟩ := H
  replace H : ((spec_DrawGetBase64.f k l0).bind fun t664 => ((spec_DrawGetPercent.f k l0).bind fun t665 => ((impl_GetHex.f k t663).bind fun bt666 => ((spec_GetHex.f k t663).bind fun bt668 => ((impl_GetBase64.f k t664).bind fun bt670 => ((spec_GetBase64.f k t664).bind fun bt672 => ((impl_GetPercent.f k t665).bind fun bt674 => ((spec_GetPercent.f k t665).bind fun bt676 => ((spec_PutHex.f k t657).bind fun t678 => (if t660.toList = t678.toList then ((spec_PutBase64.f k t658).bind fun t679 => (if t661.toList = t679.toList then ((spec_PutPercent.f k t659).bind fun t680 => (if t662.toList = t680.toList then (if bt666.1.toList = bt668.1.toList then (if (bt666.2 != bt668.2) = true then (laws_FnCodes.j0 k t657 t658 t659 t660 t661 t662 t663 t664 t665 bt666.1 bt666.2 bt670.1 bt670.2 bt674.1 bt674.2 true) else (if bt670.1.toList = bt672.1.toList then (if (bt670.2 != bt672.2) = true then (laws_FnCodes.j0 k t657 t658 t659 t660 t661 t662 t663 t664 t665 bt666.1 bt666.2 bt670.1 bt670.2 bt674.1 bt674.2 true) else (if bt674.1.toList = bt676.1.toList then (laws_FnCodes.j0 k t657 t658 t659 t660 t661 t662 t663 t664 t665 bt666.1 bt666.2 bt670.1 bt670.2 bt674.1 bt674.2 (bt674.2 != bt676.2)) else (laws_FnCodes.j0 k t657 t658 t659 t660 t661 t662 t663 t664 t665 bt666.1 bt666.2 bt670.1 bt670.2 bt674.1 bt674.2 true))) else (laws_FnCodes.j0 k t657 t658 t659 t660 t661 t662 t663 t664 t665 bt666.1 bt666.2 bt670.1 bt670.2 bt674.1 bt674.2 true))) else (laws_FnCodes.j0 k t657 t658 t659 t660 t661 t662 t663 t664 t665 bt666.1 bt666.2 bt670.1 bt670.2 bt674.1 bt674.2 true)) else (laws_FnCodes.j0 k t657 t658 t659 t660 t661 t662 t663 t664 t665 bt666.1 bt666.2 bt670.1 bt670.2 bt674.1 bt674.2 true))) else (laws_FnCodes.j0 k t657 t658 t659 t660 t661 t662 t663 t664 t665 bt666.1 bt666.2 bt670.1 bt670.2 bt674.1 bt674.2 true))) else (laws_FnCodes.j0 k t657 t658 t659 t660 t661 t662 t663 t664 t665 bt666.1 bt666.2 bt670.1 bt670.2 bt674.1 bt674.2 true))))))))))) = some r := H
  have A10 := Aside0.mk A100
  clear A100
  replace H := Option.bind_eq_some_iff.mp H
  obtain ⟨t664, A110, H⟩ := H
  replace H : ((spec_DrawGetPercent.f k l0).bind fun t665 => ((impl_GetHex.f k t663).bind fun bt666 => ((spec_GetHex.f k t663).bind fun bt668 => ((impl_GetBase64.f k t664).bind fun bt670 => ((spec_GetBase64.f k t664).bind fun bt672 => ((impl_GetPercent.f k t665).bind fun bt674 => ((spec_GetPercent.f k t665).bind fun bt676 => ((spec_PutHex.f k t657).bind fun t678 => (if t660.toList = t678.toList then ((spec_PutBase64.f k t658).bind fun t679 => (if t661.toList = t679.toList then ((spec_PutPercent.f k t659).bind fun t680 => (if t662.toList = t680.toList then (if bt666.1.toList = bt668.1.toList then (if (bt666.2 != bt668.2) = true then (laws_FnCodes.j0 k t657 t658 t659 t660 t661 t662 t663 t664 t665 bt666.1 bt666.2 bt670.1 bt670.2 bt674.1 bt674.2 true) else (if bt670.1.toList = bt672.1.toList then (if (bt670.2 != bt672.2) = true then (laws_FnCodes.j0 k t657 t658 t659 t660 t661 t662 t663 t664 t665 bt666.1 bt666.2 bt670.1 bt670.2 bt674.1 bt674.2 true) else (if bt674.1.toList = bt676.1.toList then (laws_FnCodes.j0 k t657 t658 t659 t660 t661 t662 t663 t664 t665 bt666.1 bt666.2 bt670.1 bt670.2 bt674.1 bt674.2 (bt674.2 != bt676.2)) else (laws_FnCodes.j0 k t657 t658 t659 t660 t661 t662 t663 t664 t665 bt666.1 bt666.2 bt670.1 bt670.2 bt674.1 bt674.2 true))) else (laws_FnCodes.j0 k t657 t658 t659 t660 t661 t662 t663 t664 t665 bt666.1 bt666.2 bt670.1 bt670.2 bt674.1 bt674.2 true))) else (laws_FnCodes.j0 k t657 t658 t659 t660 t661 t662 t663 t664 t665 bt666.1 bt666.2 bt670.1 bt670.2 bt674.1 bt674.2 true)) else (laws_FnCodes.j0 k t657 t658 t659 t660 t661 t662 t663 t664 t665 bt666.1 bt666.2 bt670.1 bt670.2 bt674.1 bt674.2 true))) else (laws_FnCodes.j0 k t657 t658 t659 t660 t661 t662 t663 t664 t665 bt666.1 bt666.2 bt670.1 bt670.2 bt674.1 bt674.2 true))) else (laws_FnCodes.j0 k t657 t658 t659 t660 t661 t662 t663 t664 t665 bt666.1 bt666.2 bt670.1 bt670.2 bt674.1 bt674.2 true)))))))))) = some r := H
  have A11 := Aside0.mk A110
  clear A110
  replace H := Option.bind_eq_some_iff.mp H
  obtain ⟨t665, A120, H⟩ := H
  replace H : ((impl_GetHex.f k t663).bind fun bt666 => ((spec_GetHex.f k t663).bind fun bt668 => ((impl_GetBase64.f k t664).bind fun bt670 => ((spec_GetBase64.f k t664).bind fun bt672 => ((impl_GetPercent.f k t665).bind fun bt674 => ((spec_GetPercent.f k t665).bind fun bt676 => ((spec_PutHex.f k t657).bind fun t678 => (if t660.toList = t678.toList then ((spec_PutBase64.f k t658).bind fun t679 => (if t661.toList = t679.toList then ((spec_PutPercent.f k t659).bind fun t680 => (if t662.toList = t680.toList then (if bt666.1.toList = bt668.1.toList then (if (bt666.2 != bt668.2) = true then (laws_FnCodes.j0 k t657 t658 t659 t660 t661 t662 t663 t664 t665 bt666.1 bt666.2 bt670.1 bt670.2 bt674.1 bt674.2 true) else (if bt670.1.toList = bt672.1.toList then (if (bt670.2 != bt672.2) = true then (laws_FnCodes.j0 k t657 t658 t659 t660 t661 t662 t663 t664 t665 bt666.1 bt666.2 bt670.1 bt670.2 bt674.1 bt674.2 true) else (if bt674.1.toList = bt676.1.toList then (laws_FnCodes.j0 k t657 t658 t659 t660 t661 t662 t663 t664 t665 bt666.1 bt666.2 bt670.1 bt670.2 bt674.1 bt674.2 (bt674.2 != bt676.2)) else (laws_FnCodes.j0 k t657 t658 t659 t660 t661 t662 t663 t664 t665 bt666.1 bt666.2 bt670.1 bt670.2 bt674.1 bt674.2 true))) else (laws_FnCodes.j0 k t657 t658 t659 t660 t661 t662 t663 t664 t665 bt666.1 bt666.2 bt670.1 bt670.2 bt674.1 bt674.2 true))) else (laws_FnCodes.j0 k t657 t658 t659 t660 t661 t662 t663 t664 t665 bt666.1 bt666.2 bt670.1 bt670.2 bt674.1 bt674.2 true)) else (laws_FnCodes.j0 k t657 t658 t659 t660 t661 t662 t663 t664 t665 bt666.1 bt666.2 bt670.1 bt670.2 bt674.1 bt674.2 true))) else (laws_FnCodes.j0 k t657 t658 t659 t660 t661 t662 t663 t664 t665 bt666.1 bt666.2 bt670.1 bt670.2 bt674.1 bt674.2 true))) else (laws_FnCodes.j0 k t657 t658 t659 t660 t661 t662 t663 t664 t665 bt666.1 bt666.2 bt670.1 bt670.2 bt674.1 bt674.2 true))))))))) = some r := H
  have A12 := Aside0.mk A120
  clear A120
  replace H := Option.bind_eq_some_iff.mp H
  obtain ⟨⟨t666, t667⟩, A130, H⟩ := H
  replace H : ((spec_GetHex.f k t663).bind fun bt668 => ((impl_GetBase64.f k t664).bind fun bt670 => ((spec_GetBase64.f k t664).bind fun bt672 => ((impl_GetPercent.f k t665).bind fun bt674 => ((spec_GetPercent.f k t665).bind fun bt676 => ((spec_PutHex.f k t657).bind fun t678 => (if t660.toList = t678.toList then ((spec_PutBase64.f k t658).bind fun t679 => (if t661.toList = t679.toList then ((spec_PutPercent.f k t659).bind fun t680 => (if t662.toList = t680.toList then (if t666.toList = bt668.1.toList then (if (t667 != bt668.2) = true then (laws_FnCodes.j0 k t657 t658 t659 t660 t661 t662 t663 t664 t665 t666 t667 bt670.1 bt670.2 bt674.1 bt674.2 true) else (if bt670.1.toList = bt672.1.toList then (if (bt670.2 != bt672.2) = true then (laws_FnCodes.j0 k t657 t658 t659 t660 t661 t662 t663 t664 t665 t666 t667 bt670.1 bt670.2 bt674.1 bt674.2 true) else (if bt674.1.toList = bt676.1.toList then (laws_FnCodes.j0 k t657 t658 t659 t660 t661 t662 t663 t664 t665 t666 t667 bt670.1 bt670.2 bt674.1 bt674.2 (bt674.2 != bt676.2)) else (laws_FnCodes.j0 k t657 t658 t659 t660 t661 t662 t663 t664 t665 t666 t667 bt670.1 bt670.2 bt674.1 bt674.2 true))) else (laws_FnCodes.j0 k t657 t658 t659 t660 t661 t662 t663 t664 t665 t666 t667 bt670.1 bt670.2 bt674.1 bt674.2 true))) else (laws_FnCodes.j0 k t657 t658 t659 t660 t661 t662 t663 t664 t665 t666 t667 bt670.1 bt670.2 bt674.1 bt674.2 true)) else (laws_FnCodes.j0 k t657 t658 t659 t660 t661 t662 t663 t664 t665 t666 t667 bt670.1 bt670.2 bt674.1 bt674.2 true))) else (laws_FnCodes.j0 k t657 t658 t659 t660 t661 t662 t663 t664 t665 t666 t667 bt670.1 bt670.2 bt674.1 bt674.2 true))) else (laws_FnCodes.j0 k t657 t658 t659 t660 t661 t662 t663 t664 t665 t666 t667 bt670.1 bt670.2 bt674.1 bt674.2 true)))))))) = some r := H
  have A13 := Aside0.mk A130
  clear A130
  replace H := Option.bind_eq_some_iff.mp H
  obtain ⟨⟨t668, t669⟩, A140, H⟩ := H
  replace H : ((impl_GetBase64.f k t664).bind fun bt670 => ((spec_GetBase64.f k t664).bind fun bt672 => ((impl_GetPercent.f k t665).bind fun bt674 => ((spec_GetPercent.f k t665).bind fun bt676 => ((spec_PutHex.f k t657).bind fun t678 => (if t660.toList = t678.toList then ((spec_PutBase64.f k t658).bind fun t679 => (if t661.toList = t679.toList then ((spec_PutPercent.f k t659).bind fun t680 => (if t662.toList = t680.toList then (if t666.toList = t668.toList then (if (t667 != t669) = true then (laws_FnCodes.j0 k t657 t658 t659 t660 t661 t662 t663 t664 t665 t666 t667 bt670.1 bt670.2 bt674.1 bt674.2 true) else (if bt670.1.toList = bt672.1.toList then (if (bt670.2 != bt672.2) = true then (laws_FnCodes.j0 k t657 t658 t659 t660 t661 t662 t663 t664 t665 t666 t667 bt670.1 bt670.2 bt674.1 bt674.2 true) else (if bt674.1.toList = bt676.1.toList then (laws_FnCodes.j0 k t657 t658 t659 t660 t661 t662 t663 t664 t665 t666 t667 bt670.1 bt670.2 bt674.1 bt674.2 (bt674.2 != bt676.2)) else (laws_FnCodes.j0 k t657 t658 t659 t660 t661 t662 t663 t664 t665 t666 t667 bt670.1 bt670.2 bt674.1 bt674.2 true))) else (laws_FnCodes.j0 k t657 t658 t659 t660 t661 t662 t663 t664 t665 t666 t667 bt670.1 bt670.2 bt674.1 bt674.2 true))) else (laws_FnCodes.j0 k t657 t658 t659 t660 t661 t662 t663 t664 t665 t666 t667 bt670.1 bt670.2 bt674.1 bt674.2 true)) else (laws_FnCodes.j0 k t657 t658 t659 t660 t661 t662 t663 t664 t665 t666 t667 bt670.1 bt670.2 bt674.1 bt674.2 true))) else (laws_FnCodes.j0 k t657 t658 t659 t660 t661 t662 t663 t664 t665 t666 t667 bt670.1 bt670.2 bt674.1 bt674.2 true))) else (laws_FnCodes.j0 k t657 t658 t659 t660 t661 t662 t663 t664 t665 t666 t667 bt670.1 bt670.2 bt674.1 bt674.2 true))))))) = some r := H
  have A14 := Aside0.mk A140
  clear A140
  replace H := Option.bind_eq_some_iff.mp H
  obtain ⟨⟨t670, t671⟩, A150, H⟩ := H
  replace H : ((spec_GetBase64.f k t664).bind fun bt672 => ((impl_GetPercent.f k t665).bind fun bt674 => ((spec_GetPercent.f k t665).bind fun bt676 => ((spec_PutHex.f k t657).bind fun t678 => (if t660.toList = t678.toList then ((spec_PutBase64.f k t658).bind fun t679 => (if t661.toList = t679.toList then ((spec_PutPercent.f k t659).bind fun t680 => (if t662.toList = t680.toList then (if t666.toList = t668.toList then (if (t667 != t669) = true then (laws_FnCodes.j0 k t657 t658 t659 t660 t661 t662 t663 t664 t665 t666 t667 t670 t671 bt674.1 bt674.2 true) else (if t670.toList = bt672.1.toList then (if (t671 != bt672.2) = true then (laws_FnCodes.j0 k t657 t658 t659 t660 t661 t662 t663 t664 t665 t666 t667 t670 t671 bt674.1 bt674.2 true) else (if bt674.1.toList = bt676.1.toList then (laws_FnCodes.j0 k t657 t658 t659 t660 t661 t662 t663 t664 t665 t666 t667 t670 t671 bt674.1 bt674.2 (bt674.2 != bt676.2)) else (laws_FnCodes.j0 k t657 t658 t659 t660 t661 t662 t663 t664 t665 t666 t667 t670 t671 bt674.1 bt674.2 true))) else (laws_FnCodes.j0 k t657 t658 t659 t660 t661 t662 t663 t664 t665 t666 t667 t670 t671 bt674.1 bt674.2 true))) else (laws_FnCodes.j0 k t657 t658 t659 t660 t661 t662 t663 t664 t665 t666 t667 t670 t671 bt674.1 bt674.2 true)) else (laws_FnCodes.j0 k t657 t658 t659 t660 t661 t662 t663 t664 t665 t666 t667 t670 t671 bt674.1 bt674.2 true))) else (laws_FnCodes.j0 k t657 t658 t659 t660 t661 t662 t663 t664 t665 t666 t667 t670 t671 bt674.1 bt674.2 true))) else (laws_FnCodes.j0 k t657 t658 t659 t660 t661 t662 t663 t664 t665 t666 t667 t670 t671 bt674.1 bt674.2 true)))))) = some r := H
  have A15 := Aside0.mk A150
  clear A150
  replace H := Option.bind_eq_some_iff.mp H
  obtain ⟨⟨t672, t673⟩, A160, H⟩ := H
  replace H : ((impl_GetPercent.f k t665).bind fun bt674 => ((spec_GetPercent.f k t665).bind fun bt676 => ((spec_PutHex.f k t657).bind fun t678 => (if t660.toList = t678.toList then ((spec_PutBase64.f k t658).bind fun t679 => (if t661.toList = t679.toList then ((spec_PutPercent.f k t659).bind fun t680 => (if t662.toList = t680.toList then (if t666.toList = t668.toList then (if (t667 != t669) = true then (laws_FnCodes.j0 k t657 t658 t659 t660 t661 t662 t663 t664 t665 t666 t667 t670 t671 bt674.1 bt674.2 true) else (if t670.toList = t672.toList then (if (t671 != t673) = true then (laws_FnCodes.j0 k t657 t658 t659 t660 t661 t662 t663 t664 t665 t666 t667 t670 t671 bt674.1 bt674.2 true) else (if bt674.1.toList = bt676.1.toList then (laws_FnCodes.j0 k t657 t658 t659 t660 t661 t662 t663 t664 t665 t666 t667 t670 t671 bt674.1 bt674.2 (bt674.2 != bt676.2)) else (laws_FnCodes.j0 k t657 t658 t659 t660 t661 t662 t663 t664 t665 t666 t667 t670 t671 bt674.1 bt674.2 true))) else (laws_FnCodes.j0 k t657 t658 t659 t660 t661 t662 t663 t664 t665 t666 t667 t670 t671 bt674.1 bt674.2 true))) else (laws_FnCodes.j0 k t657 t658 t659 t660 t661 t662 t663 t664 t665 t666 t667 t670 t671 bt674.1 bt674.2 true)) else (laws_FnCodes.j0 k t657 t658 t659 t660 t661 t662 t663 t664 t665 t666 t667 t670 t671 bt674.1 bt674.2 true))) else (laws_FnCodes.j0 k t657 t658 t659 t660 t661 t662 t663 t664 t665 t666 t667 t670 t671 bt674.1 bt674.2 true))) else (laws_FnCodes.j0 k t657 t658 t659 t660 t661 t662 t663 t664 t665 t666 t667 t670 t671 bt674.1 bt674.2 true))))) = some r := H
  have A16 := Aside0.mk A160
  clear A160
  replace H := Option.bind_eq_some_iff.mp H
  obtain ⟨⟨t674, t675⟩, A170, H⟩ := H
  replace H : ((spec_GetPercent.f k t665).bind fun bt676 => ((spec_PutHex.f k t657).bind fun t678 => (if t660.toList = t678.toList then ((spec_PutBase64.f k t658).bind fun t679 => (if t661.toList = t679.toList then ((spec_PutPercent.f k t659).bind fun t680 => (if t662.toList = t680.toList then (if t666.toList = t668.toList then (if (t667 != t669) = true then (laws_FnCodes.j0 k t657 t658 t659 t660 t661 t662 t663 t664 t665 t666 t667 t670 t671 t674 t675 true) else (if t670.toList = t672.toList then (if (t671 != t673) = true then (laws_FnCodes.j0 k t657 t658 t659 t660 t661 t662 t663 t664 t665 t666 t667 t670 t671 t674 t675 true) else (if t674.toList = bt676.1.toList then (laws_FnCodes.j0 k t657 t658 t659 t660 t661 t662 t663 t664 t665 t666 t667 t670 t671 t674 t675 (t675 != bt676.2)) else (laws_FnCodes.j0 k t657 t658 t659 t660 t661 t662 t663 t664 t665 t666 t667 t670 t671 t674 t675 true))) else (laws_FnCodes.j0 k t657 t658 t659 t660 t661 t662 t663 t664 t665 t666 t667 t670 t671 t674 t675 true))) else (laws_FnCodes.j0 k t657 t658 t659 t660 t661 t662 t663 t664 t665 t666 t667 t670 t671 t674 t675 true)) else (laws_FnCodes.j0 k t657 t658 t659 t660 t661 t662 t663 t664 t665 t666 t667 t670 t671 t674 t675 true))) else (laws_FnCodes.j0 k t657 t658 t659 t660 t661 t662 t663 t664 t665 t666 t667 t670 t671 t674 t675 true))) else (laws_FnCodes.j0 k t657 t658 t659 t660 t661 t662 t663 t664 t665 t666 t667 t670 t671 t674 t675 true)))) = some r := H
  have A17 := Aside0.mk A170
  clear A170
  replace H := Option.bind_eq_some_iff.mp H
  obtain ⟨⟨t676, t677⟩, A180, H⟩ := H
  replace H : ((spec_PutHex.f k t657).bind fun t678 => (if t660.toList = t678.toList then ((spec_PutBase64.f k t658).bind fun t679 => (if t661.toList = t679.toList then ((spec_PutPercent.f k t659).bind fun t680 => (if t662.toList = t680.toList then (if t666.toList = t668.toList then (if (t667 != t669) = true then (laws_FnCodes.j0 k t657 t658 t659 t660 t661 t662 t663 t664 t665 t666 t667 t670 t671 t674 t675 true) else (if t670.toList = t672.toList then (if (t671 != t673) = true then (laws_FnCodes.j0 k t657 t658 t659 t660 t661 t662 t663 t664 t665 t666 t667 t670 t671 t674 t675 true) else (if t674.toList = t676.toList then (laws_FnCodes.j0 k t657 t658 t659 t660 t661 t662 t663 t664 t665 t666 t667 t670 t671 t674 t675 (t675 != t677)) else (laws_FnCodes.j0 k t657 t658 t659 t660 t661 t662 t663 t664 t665 t666 t667 t670 t671 t674 t675 true))) else (laws_FnCodes.j0 k t657 t658 t659 t660 t661 t662 t663 t664 t665 t666 t667 t670 t671 t674 t675 true))) else (laws_FnCodes.j0 k t657 t658 t659 t660 t661 t662 t663 t664 t665 t666 t667 t670 t671 t674 t675 true)) else (laws_FnCodes.j0 k t657 t658 t659 t660 t661 t662 t663 t664 t665 t666 t667 t670 t671 t674 t675 true))) else (laws_FnCodes.j0 k t657 t658 t659 t660 t661 t662 t663 t664 t665 t666 t667 t670 t671 t674 t675 true))) else (laws_FnCodes.j0 k t657 t658 t659 t660 t661 t662 t663 t664 t665 t666 t667 t670 t671 t674 t675 true))) = some r := H
  have A18 := Aside0.mk A180
  clear A180
  have HC19 := Aside0.mk H
  clear H
  go_enter Tryd.func14, Tryd.ntmps14
  go_upto_region 12 with (first | ((with_reducible refine gate_callee (f := 49) rfl ?_); refine goesL_ (some 31) rfl rfl Tryd.func49 (by kernel_rfl) rfl #[.slice A0 l0.length c0] rfl (by (try simp only [List.map_toArray, List.map_cons, List.map_nil]); first | done | rfl | (simp only [List.length_drop, List.length_take]; rfl)) ?_; (with_reducible refine (laws_big.calls _ _ l0 false _ ?side1 ?side2 A2.out).mono ?_); (case side1 => repeat (first | exact HR0.out | (with_reducible refine Kd.C_alloc ?_ _) | (with_reducible refine Kd.C_drewN ?_ _) | (with_reducible refine Kd.C_drew ?_))); (case side2 => exact HC0.out); rintro e w' ⟨rfl, ⟨nd, rfl⟩⟩; refine ⟨_, rfl, ?_⟩) | ((with_reducible refine gate_callee (f := 50) rfl ?_); refine goesL_ (some 33) rfl rfl Tryd.func50 (by kernel_rfl) rfl #[.slice A0 l0.length c0] rfl (by (try simp only [List.map_toArray, List.map_cons, List.map_nil]); first | done | rfl | (simp only [List.length_drop, List.length_take]; rfl)) ?_; (with_reducible refine (spec_DrawPutHex.calls k _ _ l0 t657 _ ?side1 ?side2 A4.out).mono ?_); (case side1 => repeat (first | exact HR0.out | (with_reducible refine Kd.C_alloc ?_ _) | (with_reducible refine Kd.C_drewN ?_ _) | (with_reducible refine Kd.C_drew ?_))); (case side2 => exact HC0.out); rintro e w20 ⟨rfl, hb⟩; refine ⟨_, rfl, ?_⟩; have n0_ := Aside0.mk (below_step (by repeat (first | (with_reducible first | exact HB.out | apply below_alloc | apply pw_below_drewN | apply below_drew1) | exact HB.out)) hb); clear HB; have HB := n0_; clear n0_; (try clear hb); (try clear hb2); (try clear hk); (try clear hi)) | ((with_reducible refine gate_callee (f := 51) rfl ?_); refine goesL_ (some 35) rfl rfl Tryd.func51 (by kernel_rfl) rfl #[.slice A0 l0.length c0] rfl (by (try simp only [List.map_toArray, List.map_cons, List.map_nil]); first | done | rfl | (simp only [List.length_drop, List.length_take]; rfl)) ?_; (with_reducible refine (spec_DrawPutBase64.calls k _ _ l0 t658 _ ?side1 ?side2 A5.out).mono ?_); (case side1 => repeat (first | exact (Kd.C_below HR0.out HB.out) | (with_reducible refine Kd.C_alloc ?_ _) | (with_reducible refine Kd.C_drewN ?_ _) | (with_reducible refine Kd.C_drew ?_))); (case side2 => exact HC0.out); rintro e w21 ⟨rfl, hb⟩; refine ⟨_, rfl, ?_⟩; have n0_ := Aside0.mk (below_step (by repeat (first | (with_reducible first | exact HB.out | apply below_alloc | apply pw_below_drewN | apply below_drew1) | exact HB.out)) hb); clear HB; have HB := n0_; clear n0_; (try clear hb); (try clear hb2); (try clear hk); (try clear hi)) | ((with_reducible refine gate_callee (f := 52) rfl ?_); refine goesL_ (some 37) rfl rfl Tryd.func52 (by kernel_rfl) rfl #[.slice A0 l0.length c0] rfl (by (try simp only [List.map_toArray, List.map_cons, List.map_nil]); first | done | rfl | (simp only [List.length_drop, List.length_take]; rfl)) ?_; (with_reducible refine (spec_DrawPutPercent.calls k _ _ l0 t659 _ ?side1 ?side2 A6.out).mono ?_); (case side1 => repeat (first | exact (Kd.C_below HR0.out HB.out) | (with_reducible refine Kd.C_alloc ?_ _) | (with_reducible refine Kd.C_drewN ?_ _) | (with_reducible refine Kd.C_drew ?_))); (case side2 => exact HC0.out); rintro e w22 ⟨rfl, hb⟩; refine ⟨_, rfl, ?_⟩; have n0_ := Aside0.mk (below_step (by repeat (first | (with_reducible first | exact HB.out | apply below_alloc | apply pw_below_drewN | apply below_drew1) | exact HB.out)) hb); clear HB; have HB := n0_; clear n0_; (try clear hb); (try clear hb2); (try clear hk); (try clear hi)) | ((with_reducible refine gate_callee (f := 53) rfl ?_); refine goesL_ (some 39) rfl rfl Tryd.func53 (by kernel_rfl) rfl #[.string t657] rfl (by (try simp only [List.map_toArray, List.map_cons, List.map_nil]); first | done | rfl | (simp only [List.length_drop, List.length_take]; rfl)) ?_; (with_reducible refine (impl_PutHex.calls k t657 t660 _ A7.out).mono ?_); rintro e w23 ⟨rfl, hb⟩; refine ⟨_, rfl, ?_⟩; have n0_ := Aside0.mk (below_step (by repeat (first | (with_reducible first | exact HB.out | apply below_alloc | apply pw_below_drewN | apply below_drew1) | exact HB.out)) hb); clear HB; have HB := n0_; clear n0_; (try clear hb); (try clear hb2); (try clear hk); (try clear hi)) | ((with_reducible refine gate_callee (f := 54) rfl ?_); refine goesL_ (some 41) rfl rfl Tryd.func54 (by kernel_rfl) rfl #[.string t658] rfl (by (try simp only [List.map_toArray, List.map_cons, List.map_nil]); first | done | rfl | (simp only [List.length_drop, List.length_take]; rfl)) ?_; (with_reducible refine (impl_PutBase64.calls k t658 t661 _ A8.out).mono ?_); rintro e w24 ⟨rfl, hb⟩; refine ⟨_, rfl, ?_⟩; have n0_ := Aside0.mk (below_step (by repeat (first | (with_reducible first | exact HB.out | apply below_alloc | apply pw_below_drewN | apply below_drew1) | exact HB.out)) hb); clear HB; have HB := n0_; clear n0_; (try clear hb); (try clear hb2); (try clear hk); (try clear hi)) | ((with_reducible refine gate_callee (f := 33) rfl ?_); refine goesL_ (some 43) rfl rfl Tryd.func33 (by kernel_rfl) rfl #[.string t659] rfl (by (try simp only [List.map_toArray, List.map_cons, List.map_nil]); first | done | rfl | (simp only [List.length_drop, List.length_take]; rfl)) ?_; (with_reducible refine (impl_PutPercent.calls k t659 t662 _ A9.out).mono ?_); rintro e w25 ⟨rfl, hb⟩; refine ⟨_, rfl, ?_⟩; have n0_ := Aside0.mk (below_step (by repeat (first | (with_reducible first | exact HB.out | apply below_alloc | apply pw_below_drewN | apply below_drew1) | exact HB.out)) hb); clear HB; have HB := n0_; clear n0_; (try clear hb); (try clear hb2); (try clear hk); (try clear hi)) | ((with_reducible refine gate_callee (f := 55) rfl ?_); refine goesL_ (some 45) rfl rfl Tryd.func55 (by kernel_rfl) rfl #[.slice A0 l0.length c0] rfl (by (try simp only [List.map_toArray, List.map_cons, List.map_nil]); first | done | rfl | (simp only [List.length_drop, List.length_take]; rfl)) ?_; (with_reducible refine (spec_DrawGetHex.calls k _ _ l0 t663 _ ?side1 ?side2 A10.out).mono ?_); (case side1 => repeat (first | exact (Kd.C_below HR0.out HB.out) | (with_reducible refine Kd.C_alloc ?_ _) | (with_reducible refine Kd.C_drewN ?_ _) | (with_reducible refine Kd.C_drew ?_))); (case side2 => exact HC0.out); rintro e w26 ⟨rfl, hb⟩; refine ⟨_, rfl, ?_⟩; have n0_ := Aside0.mk (below_step (by repeat (first | (with_reducible first | exact HB.out | apply below_alloc | apply pw_below_drewN | apply below_drew1) | exact HB.out)) hb); clear HB; have HB := n0_; clear n0_; (try clear hb); (try clear hb2); (try clear hk); (try clear hi)) | ((with_reducible refine gate_callee (f := 56) rfl ?_); refine goesL_ (some 47) rfl rfl Tryd.func56 (by kernel_rfl) rfl #[.slice A0 l0.length c0] rfl (by (try simp only [List.map_toArray, List.map_cons, List.map_nil]); first | done | rfl | (simp only [List.length_drop, List.length_take]; rfl)) ?_; (with_reducible refine (spec_DrawGetBase64.calls k _ _ l0 t664 _ ?side1 ?side2 A11.out).mono ?_); (case side1 => repeat (first | exact (Kd.C_below HR0.out HB.out) | (with_reducible refine Kd.C_alloc ?_ _) | (with_reducible refine Kd.C_drewN ?_ _) | (with_reducible refine Kd.C_drew ?_))); (case side2 => exact HC0.out); rintro e w27 ⟨rfl, hb⟩; refine ⟨_, rfl, ?_⟩; have n0_ := Aside0.mk (below_step (by repeat (first | (with_reducible first | exact HB.out | apply below_alloc | apply pw_below_drewN | apply below_drew1) | exact HB.out)) hb); clear HB; have HB := n0_; clear n0_; (try clear hb); (try clear hb2); (try clear hk); (try clear hi)) | ((with_reducible refine gate_callee (f := 57) rfl ?_); refine goesL_ (some 49) rfl rfl Tryd.func57 (by kernel_rfl) rfl #[.slice A0 l0.length c0] rfl (by (try simp only [List.map_toArray, List.map_cons, List.map_nil]); first | done | rfl | (simp only [List.length_drop, List.length_take]; rfl)) ?_; (with_reducible refine (spec_DrawGetPercent.calls k _ _ l0 t665 _ ?side1 ?side2 A12.out).mono ?_); (case side1 => repeat (first | exact (Kd.C_below HR0.out HB.out) | (with_reducible refine Kd.C_alloc ?_ _) | (with_reducible refine Kd.C_drewN ?_ _) | (with_reducible refine Kd.C_drew ?_))); (case side2 => exact HC0.out); rintro e w28 ⟨rfl, hb⟩; refine ⟨_, rfl, ?_⟩; have n0_ := Aside0.mk (below_step (by repeat (first | (with_reducible first | exact HB.out | apply below_alloc | apply pw_below_drewN | apply below_drew1) | exact HB.out)) hb); clear HB; have HB := n0_; clear n0_; (try clear hb); (try clear hb2); (try clear hk); (try clear hi)) | ((with_reducible refine gate_callee (f := 58) rfl ?_); refine goesL_ (some 52) rfl rfl Tryd.func58 (by kernel_rfl) rfl #[.string t663] rfl (by (try simp only [List.map_toArray, List.map_cons, List.map_nil]); first | done | rfl | (simp only [List.length_drop, List.length_take]; rfl)) ?_; (with_reducible refine (impl_GetHex.calls k t663 t666 t667 _ A13.out).mono ?_); rintro e w29 ⟨rfl, hb⟩; refine ⟨_, rfl, ?_⟩; have n0_ := Aside0.mk (below_step (by repeat (first | (with_reducible first | exact HB.out | apply below_alloc | apply pw_below_drewN | apply below_drew1) | exact HB.out)) hb); clear HB; have HB := n0_; clear n0_; (try clear hb); (try clear hb2); (try clear hk); (try clear hi)) | ((with_reducible refine gate_callee (f := 59) rfl ?_); refine goesL_ (some 57) rfl rfl Tryd.func59 (by kernel_rfl) rfl #[.string t663] rfl (by (try simp only [List.map_toArray, List.map_cons, List.map_nil]); first | done | rfl | (simp only [List.length_drop, List.length_take]; rfl)) ?_; (with_reducible refine (spec_GetHex.calls k t663 t668 t669 _ A14.out).mono ?_); rintro e w30 ⟨rfl, hb⟩; refine ⟨_, rfl, ?_⟩; have n0_ := Aside0.mk (below_step (by repeat (first | (with_reducible first | exact HB.out | apply below_alloc | apply pw_below_drewN | apply below_drew1) | exact HB.out)) hb); clear HB; have HB := n0_; clear n0_; (try clear hb); (try clear hb2); (try clear hk); (try clear hi)) | ((with_reducible refine gate_callee (f := 31) rfl ?_); refine goesL_ (some 62) rfl rfl Tryd.func31 (by kernel_rfl) rfl #[.string t664] rfl (by (try simp only [List.map_toArray, List.map_cons, List.map_nil]); first | done | rfl | (simp only [List.length_drop, List.length_take]; rfl)) ?_; (with_reducible refine (impl_GetBase64.calls k t664 t670 t671 _ A15.out).mono ?_); rintro e w31 ⟨rfl, hb⟩; refine ⟨_, rfl, ?_⟩; have n0_ := Aside0.mk (below_step (by repeat (first | (with_reducible first | exact HB.out | apply below_alloc | apply pw_below_drewN | apply below_drew1) | exact HB.out)) hb); clear HB; have HB := n0_; clear n0_; (try clear hb); (try clear hb2); (try clear hk); (try clear hi)) | ((with_reducible refine gate_callee (f := 30) rfl ?_); refine goesL_ (some 67) rfl rfl Tryd.func30 (by kernel_rfl) rfl #[.string t664] rfl (by (try simp only [List.map_toArray, List.map_cons, List.map_nil]); first | done | rfl | (simp only [List.length_drop, List.length_take]; rfl)) ?_; (with_reducible refine (spec_GetBase64.calls k t664 t672 t673 _ A16.out).mono ?_); rintro e w32 ⟨rfl, hb⟩; refine ⟨_, rfl, ?_⟩; have n0_ := Aside0.mk (below_step (by repeat (first | (with_reducible first | exact HB.out | apply below_alloc | apply pw_below_drewN | apply below_drew1) | exact HB.out)) hb); clear HB; have HB := n0_; clear n0_; (try clear hb); (try clear hb2); (try clear hk); (try clear hi)) | ((with_reducible refine gate_callee (f := 35) rfl ?_); refine goesL_ (some 72) rfl rfl Tryd.func35 (by kernel_rfl) rfl #[.string t665] rfl (by (try simp only [List.map_toArray, List.map_cons, List.map_nil]); first | done | rfl | (simp only [List.length_drop, List.length_take]; rfl)) ?_; (with_reducible refine (impl_GetPercent.calls k t665 t674 t675 _ ?side1 A17.out).mono ?_); (case side1 => exact Glob.below HGC.out (by repeat (first | (with_reducible first | exact HB.out | apply below_alloc | apply pw_below_drewN | apply below_drew1) | exact HB.out))); rintro e w33 ⟨rfl, hb⟩; refine ⟨_, rfl, ?_⟩; have n0_ := Aside0.mk (below_step (by repeat (first | (with_reducible first | exact HB.out | apply below_alloc | apply pw_below_drewN | apply below_drew1) | exact HB.out)) hb); clear HB; have HB := n0_; clear n0_; (try clear hb); (try clear hb2); (try clear hk); (try clear hi)) | ((with_reducible refine gate_callee (f := 34) rfl ?_); refine goesL_ (some 77) rfl rfl Tryd.func34 (by kernel_rfl) rfl #[.string t665] rfl (by (try simp only [List.map_toArray, List.map_cons, List.map_nil]); first | done | rfl | (simp only [List.length_drop, List.length_take]; rfl)) ?_; (with_reducible refine (spec_GetPercent.calls k t665 t676 t677 _ A18.out).mono ?_); rintro e w34 ⟨rfl, hb⟩; refine ⟨_, rfl, ?_⟩; have n0_ := Aside0.mk (below_step (by repeat (first | (with_reducible first | exact HB.out | apply below_alloc | apply pw_below_drewN | apply below_drew1) | exact HB.out)) hb); clear HB; have HB := n0_; clear n0_; (try clear hb); (try clear hb2); (try clear hk); (try clear hi)))
  (try simp only [Act.put, List.setIfInBounds_toArray, List.set_cons_zero, List.set_cons_succ])
  go_cut [125] (fun v125 wc => ∃ (kq : Nat) (x125_18 : Bool), v125 = .bool x125_18 ∧ Aside0 (laws_FnCodes.j0 kq t657 t658 t659 t660 t661 t662 t663 t664 t665 t666 t667 t670 t671 t674 t675 x125_18 = some r) ∧ Aside0 (kq ≤ k) ∧ Aside0 (Below w.heap.size w wc))
  case first =>
   have H := HC19.out
   clear HC19
   replace H := Option.bind_eq_some_iff.mp H
   obtain ⟨t678, A350, H⟩ := H
   replace H : (if t660.toList = t678.toList then ((spec_PutBase64.f k t658).bind fun t679 => (if t661.toList = t679.toList then ((spec_PutPercent.f k t659).bind fun t680 => (if t662.toList = t680.toList then (if t666.toList = t668.toList then (if (t667 != t669) = true then (laws_FnCodes.j0 k t657 t658 t659 t660 t661 t662 t663 t664 t665 t666 t667 t670 t671 t674 t675 true) else (if t670.toList = t672.toList then (if (t671 != t673) = true then (laws_FnCodes.j0 k t657 t658 t659 t660 t661 t662 t663 t664 t665 t666 t667 t670 t671 t674 t675 true) else (if t674.toList = t676.toList then (laws_FnCodes.j0 k t657 t658 t659 t660 t661 t662 t663 t664 t665 t666 t667 t670 t671 t674 t675 (t675 != t677)) else (laws_FnCodes.j0 k t657 t658 t659 t660 t661 t662 t663 t664 t665 t666 t667 t670 t671 t674 t675 true))) else (laws_FnCodes.j0 k t657 t658 t659 t660 t661 t662 t663 t664 t665 t666 t667 t670 t671 t674 t675 true))) else (laws_FnCodes.j0 k t657 t658 t659 t660 t661 t662 t663 t664 t665 t666 t667 t670 t671 t674 t675 true)) else (laws_FnCodes.j0 k t657 t658 t659 t660 t661 t662 t663 t664 t665 t666 t667 t670 t671 t674 t675 true))) else (laws_FnCodes.j0 k t657 t658 t659 t660 t661 t662 t663 t664 t665 t666 t667 t670 t671 t674 t675 true))) else (laws_FnCodes.j0 k t657 t658 t659 t660 t661 t662 t663 t664 t665 t666 t667 t670 t671 t674 t675 true)) = some r := H
   have A35 := Aside0.mk A350
   clear A350
   by_cases c36 : t660.toList = t678.toList
   ·rw [if_pos c36] at H
    have c36b0 : (t660.toList == t678.toList) = true := beq_iff_eq.mpr c36
    have c36b1 : (t660.toList != t678.toList) = false := bne_eq_false_iff_eq.mpr c36
    clear c36
    (first | rw [c36b0] | (simp only [i64_w, i32_w]; rw [c36b0]) | skip)
    replace H := Option.bind_eq_some_iff.mp H
    obtain ⟨t679, A370, H⟩ := H
    replace H : (if t661.toList = t679.toList then ((spec_PutPercent.f k t659).bind fun t680 => (if t662.toList = t680.toList then (if t666.toList = t668.toList then (if (t667 != t669) = true then (laws_FnCodes.j0 k t657 t658 t659 t660 t661 t662 t663 t664 t665 t666 t667 t670 t671 t674 t675 true) else (if t670.toList = t672.toList then (if (t671 != t673) = true then (laws_FnCodes.j0 k t657 t658 t659 t660 t661 t662 t663 t664 t665 t666 t667 t670 t671 t674 t675 true) else (if t674.toList = t676.toList then (laws_FnCodes.j0 k t657 t658 t659 t660 t661 t662 t663 t664 t665 t666 t667 t670 t671 t674 t675 (t675 != t677)) else (laws_FnCodes.j0 k t657 t658 t659 t660 t661 t662 t663 t664 t665 t666 t667 t670 t671 t674 t675 true))) else (laws_FnCodes.j0 k t657 t658 t659 t660 t661 t662 t663 t664 t665 t666 t667 t670 t671 t674 t675 true))) else (laws_FnCodes.j0 k t657 t658 t659 t660 t661 t662 t663 t664 t665 t666 t667 t670 t671 t674 t675 true)) else (laws_FnCodes.j0 k t657 t658 t659 t660 t661 t662 t663 t664 t665 t666 t667 t670 t671 t674 t675 true))) else (laws_FnCodes.j0 k t657 t658 t659 t660 t661 t662 t663 t664 t665 t666 t667 t670 t671 t674 t675 true)) = some r := H
    have A37 := Aside0.mk A370
    clear A370
    by_cases c38 : t661.toList = t679.toList
    ·rw [if_pos c38] at H
     have c38b0 : (t661.toList == t679.toList) = true := beq_iff_eq.mpr c38
     have c38b1 : (t661.toList != t679.toList) = false := bne_eq_false_iff_eq.mpr c38
     clear c38
     replace H := Option.bind_eq_some_iff.mp H
     obtain ⟨t680, A390, H⟩ := H
     replace H : (if t662.toList = t680.toList then (if t666.toList = t668.toList then (if (t667 != t669) = true then (laws_FnCodes.j0 k t657 t658 t659 t660 t661 t662 t663 t664 t665 t666 t667 t670 t671 t674 t675 true) else (if t670.toList = t672.toList then (if (t671 != t673) = true then (laws_FnCodes.j0 k t657 t658 t659 t660 t661 t662 t663 t664 t665 t666 t667 t670 t671 t674 t675 true) else (if t674.toList = t676.toList then (laws_FnCodes.j0 k t657 t658 t659 t660 t661 t662 t663 t664 t665 t666 t667 t670 t671 t674 t675 (t675 != t677)) else (laws_FnCodes.j0 k t657 t658 t659 t660 t661 t662 t663 t664 t665 t666 t667 t670 t671 t674 t675 true))) else (laws_FnCodes.j0 k t657 t658 t659 t660 t661 t662 t663 t664 t665 t666 t667 t670 t671 t674 t675 true))) else (laws_FnCodes.j0 k t657 t658 t659 t660 t661 t662 t663 t664 t665 t666 t667 t670 t671 t674 t675 true)) else (laws_FnCodes.j0 k t657 t658 t659 t660 t661 t662 t663 t664 t665 t666 t667 t670 t671 t674 t675 true)) = some r := H
     have A39 := Aside0.mk A390
     clear A390
     by_cases c40 : t662.toList = t680.toList
     ·rw [if_pos c40] at H
      have c40b0 : (t662.toList == t680.toList) = true := beq_iff_eq.mpr c40
      have c40b1 : (t662.toList != t680.toList) = false := bne_eq_false_iff_eq.mpr c40
      clear c40
      by_cases c41 : t666.toList = t668.toList
      ·rw [if_pos c41] at H
       have c41b0 : (t666.toList == t668.toList) = true := beq_iff_eq.mpr c41
       have c41b1 : (t666.toList != t668.toList) = false := bne_eq_false_iff_eq.mpr c41
       clear c41
       by_cases c42 : (t667 != t669) = true
       ·rw [if_pos c42] at H
        have c42b0 : (t667 != t669) = true := c42
        (try (have c42b1 : decide (t667 = t669) = false := by simpa using c42))
        (try (have c42b2 : (t667 == t669) = false := by simpa using c42))
        (try (have c42b3 : ¬ (t667 = t669) := by simpa using c42))
        clear c42
        first | exact absurd ((laws_FnCodes.j0_true _ _ _ _ _ _ _ _ _ _ _ _ _ _ _ _  H).symm.trans hr_) (by decide) | exact absurd ((laws_FnCodes.j1_true _ _ _ _ _ _ _  H).symm.trans hr_) (by decide)
       ·rw [if_neg c42] at H
        have c42b0 : (t667 != t669) = false := by simpa using c42
        (try (have c42b1 : decide (t667 = t669) = true := by simpa using c42))
        (try (have c42b2 : (t667 == t669) = true := by simpa using c42))
        clear c42
        by_cases c46 : t670.toList = t672.toList
        ·rw [if_pos c46] at H
         have c46b0 : (t670.toList == t672.toList) = true := beq_iff_eq.mpr c46
         have c46b1 : (t670.toList != t672.toList) = false := bne_eq_false_iff_eq.mpr c46
         clear c46
         by_cases c47 : (t671 != t673) = true
         ·rw [if_pos c47] at H
          have c47b0 : (t671 != t673) = true := c47
          (try (have c47b1 : decide (t671 = t673) = false := by simpa using c47))
          (try (have c47b2 : (t671 == t673) = false := by simpa using c47))
          (try (have c47b3 : ¬ (t671 = t673) := by simpa using c47))
          clear c47
          first | exact absurd ((laws_FnCodes.j0_true _ _ _ _ _ _ _ _ _ _ _ _ _ _ _ _  H).symm.trans hr_) (by decide) | exact absurd ((laws_FnCodes.j1_true _ _ _ _ _ _ _  H).symm.trans hr_) (by decide)
         ·rw [if_neg c47] at H
          have c47b0 : (t671 != t673) = false := by simpa using c47
          (try (have c47b1 : decide (t671 = t673) = true := by simpa using c47))
          (try (have c47b2 : (t671 == t673) = true := by simpa using c47))
          clear c47
          by_cases c51 : t674.toList = t676.toList
          ·rw [if_pos c51] at H
           have c51b0 : (t674.toList == t676.toList) = true := beq_iff_eq.mpr c51
           have c51b1 : (t674.toList != t676.toList) = false := bne_eq_false_iff_eq.mpr c51
           clear c51
           have H' := Aside0.mk H
           clear H
           go_wp2_with (first | ((with_reducible refine gate_callee (f := 60) rfl ?_); refine goesL_ (some 82) rfl rfl Tryd.func60 (by kernel_rfl) rfl #[.string t657] rfl (by (try simp only [List.map_toArray, List.map_cons, List.map_nil]); first | done | rfl | (simp only [List.length_drop, List.length_take]; rfl)) ?_; (with_reducible refine (spec_PutHex.calls k t657 t678 _ A35.out).mono ?_); rintro e w52 ⟨rfl, hb⟩; refine ⟨_, rfl, ?_⟩; have n0_ := Aside0.mk (below_step (by repeat (first | (with_reducible first | exact HB.out | apply below_alloc | apply pw_below_drewN | apply below_drew1) | exact HB.out)) hb); clear HB; have HB := n0_; clear n0_; (try clear hb); (try clear hb2); (try clear hk); (try clear hi)) | (go_at_call 61; (with_reducible refine (spec_PutBase64.calls k t658 t679 _ A37.out).mono ?_); rintro e w53 ⟨rfl, hb⟩; have n0_ := Aside0.mk (below_step (by repeat (first | (with_reducible first | exact HB.out | apply below_alloc | apply pw_below_drewN | apply below_drew1) | exact HB.out)) hb); clear HB; have HB := n0_; clear n0_; (try clear hb); (try clear hb2); (try clear hk); (try clear hi)) | (go_at_call 32; (with_reducible refine (spec_PutPercent.calls k t659 t680 _ A39.out).mono ?_); rintro e w54 ⟨rfl, hb⟩; have n0_ := Aside0.mk (below_step (by repeat (first | (with_reducible first | exact HB.out | apply below_alloc | apply pw_below_drewN | apply below_drew1) | exact HB.out)) hb); clear HB; have HB := n0_; clear n0_; (try clear hb); (try clear hb2); (try clear hk); (try clear hi)))
           go_meet
           case rel => exact ⟨_, ((t675 != t677)), (by first | rfl | (simp; done) | (simp [*]; done) | (simp; exact isEmpty_ne _)), H', ⟨by first | omega | exact Nat.le_refl _⟩, ⟨by repeat (first | (with_reducible first | exact HB.out | apply below_alloc | apply pw_below_drewN | apply below_drew1) | exact HB.out)⟩⟩
          ·rw [if_neg c51] at H
           have c51b0 : (t674.toList == t676.toList) = false := beq_eq_false_iff_ne.mpr c51
           have c51b1 : (t674.toList != t676.toList) = true := bne_iff_ne.mpr c51
           first | exact absurd ((laws_FnCodes.j0_true _ _ _ _ _ _ _ _ _ _ _ _ _ _ _ _  H).symm.trans hr_) (by decide) | exact absurd ((laws_FnCodes.j1_true _ _ _ _ _ _ _  H).symm.trans hr_) (by decide)
        ·rw [if_neg c46] at H
         have c46b0 : (t670.toList == t672.toList) = false := beq_eq_false_iff_ne.mpr c46
         have c46b1 : (t670.toList != t672.toList) = true := bne_iff_ne.mpr c46
         first | exact absurd ((laws_FnCodes.j0_true _ _ _ _ _ _ _ _ _ _ _ _ _ _ _ _  H).symm.trans hr_) (by decide) | exact absurd ((laws_FnCodes.j1_true _ _ _ _ _ _ _  H).symm.trans hr_) (by decide)
      ·rw [if_neg c41] at H
       have c41b0 : (t666.toList == t668.toList) = false := beq_eq_false_iff_ne.mpr c41
       have c41b1 : (t666.toList != t668.toList) = true := bne_iff_ne.mpr c41
       first | exact absurd ((laws_FnCodes.j0_true _ _ _ _ _ _ _ _ _ _ _ _ _ _ _ _  H).symm.trans hr_) (by decide) | exact absurd ((laws_FnCodes.j1_true _ _ _ _ _ _ _  H).symm.trans hr_) (by decide)
     ·rw [if_neg c40] at H
      have c40b0 : (t662.toList == t680.toList) = false := beq_eq_false_iff_ne.mpr c40
      have c40b1 : (t662.toList != t680.toList) = true := bne_iff_ne.mpr c40
      first | exact absurd ((laws_FnCodes.j0_true _ _ _ _ _ _ _ _ _ _ _ _ _ _ _ _  H).symm.trans hr_) (by decide) | exact absurd ((laws_FnCodes.j1_true _ _ _ _ _ _ _  H).symm.trans hr_) (by decide)
    ·rw [if_neg c38] at H
     have c38b0 : (t661.toList == t679.toList) = false := beq_eq_false_iff_ne.mpr c38
     have c38b1 : (t661.toList != t679.toList) = true := bne_iff_ne.mpr c38
     first | exact absurd ((laws_FnCodes.j0_true _ _ _ _ _ _ _ _ _ _ _ _ _ _ _ _  H).symm.trans hr_) (by decide) | exact absurd ((laws_FnCodes.j1_true _ _ _ _ _ _ _  H).symm.trans hr_) (by decide)
   ·rw [if_neg c36] at H
    have c36b0 : (t660.toList == t678.toList) = false := beq_eq_false_iff_ne.mpr c36
    have c36b1 : (t660.toList != t678.toList) = true := bne_iff_ne.mpr c36
    (first | rw [c36b0] | (simp only [i64_w, i32_w]; rw [c36b0]) | skip)
    first | exact absurd ((laws_FnCodes.j0_true _ _ _ _ _ _ _ _ _ _ _ _ _ _ _ _  H).symm.trans hr_) (by decide) | exact absurd ((laws_FnCodes.j1_true _ _ _ _ _ _ _  H).symm.trans hr_) (by decide)
  case rest =>
   clear HC19
   try clear c1
   try clear p2
   try clear c3
   try clear c4
   try clear c5
   try clear c6
   try clear c14
   try clear c30
   try clear c31
   try clear c33
   try clear c34
   try clear c35
   try clear c36
   try clear c36b0
   try clear c36b1
   try clear c38
   try clear c38b0
   try clear c38b1
   try clear c40
   try clear c40b0
   try clear c40b1
   try clear c41
   try clear c41b0
   try clear c41b1
   try clear c42
   try clear c42b0
   try clear c42b1
   try clear c42b2
   try clear c46
   try clear c46b0
   try clear c46b1
   try clear c47
   try clear c47b0
   try clear c47b1
   try clear c47b2
   try clear c49
   try clear c50
   try clear c51
   try clear c51b0
   try clear c51b1
   try clear c52
   try clear c53
   try clear c54
   try clear c55
   try clear c56
   try clear c57
   try clear c58
   try clear c59
   try clear c60
   obtain ⟨kq, x125_18, rfl, HA, HJ18, HB⟩ := hcut
   cases kq with
   | zero => exact absurd HA.out (by simp [laws_FnCodes.j0])
   | succ kj18 =>
    have H := HA.out
    clear HA
    simp only [laws_FnCodes.j0] at H
    by_cases c70 : x125_18 = true
    ·subst c70
     have H1 : (some false) = some r := by rw [if_pos rfl] at H; exact H
     clear H
     have H := H1
     clear H1
     exact absurd ((Option.some.inj H).trans hr_) (by decide)
    ·replace c70 := Bool.eq_false_iff.mpr c70
     subst c70
     have H1 : (if t667 = true then ((impl_PutHex.f kj18 t666).bind fun t681 => (if t681.toList = t663.toList then (if t671 = true then ((impl_PutBase64.f kj18 t670).bind fun t682 => (if t682.toList = t664.toList then (if t675 = true then ((impl_PutPercent.f kj18 t674).bind fun t683 => (laws_FnCodes.j1 kj18 t657 t658 t659 t660 t661 t662 (t683.toList != t665.toList))) else (laws_FnCodes.j1 kj18 t657 t658 t659 t660 t661 t662 false)) else (laws_FnCodes.j1 kj18 t657 t658 t659 t660 t661 t662 true))) else (if t675 = true then ((impl_PutPercent.f kj18 t674).bind fun t684 => (laws_FnCodes.j1 kj18 t657 t658 t659 t660 t661 t662 (t684.toList != t665.toList))) else (laws_FnCodes.j1 kj18 t657 t658 t659 t660 t661 t662 false))) else (laws_FnCodes.j1 kj18 t657 t658 t659 t660 t661 t662 true))) else (if t671 = true then ((impl_PutBase64.f kj18 t670).bind fun t685 => (if t685.toList = t664.toList then (if t675 = true then ((impl_PutPercent.f kj18 t674).bind fun t686 => (laws_FnCodes.j1 kj18 t657 t658 t659 t660 t661 t662 (t686.toList != t665.toList))) else (laws_FnCodes.j1 kj18 t657 t658 t659 t660 t661 t662 false)) else (laws_FnCodes.j1 kj18 t657 t658 t659 t660 t661 t662 true))) else (if t675 = true then ((impl_PutPercent.f kj18 t674).bind fun t687 => (laws_FnCodes.j1 kj18 t657 t658 t659 t660 t661 t662 (t687.toList != t665.toList))) else (laws_FnCodes.j1 kj18 t657 t658 t659 t660 t661 t662 false)))) = some r := by rw [if_neg (show ¬ (false = true) by decide)] at H; exact H
     clear H
     have H := H1
     clear H1
     have HC71 := Aside0.mk H
     clear H
     go_upto_region 14 with (fail)
     go_cut [150] (fun v150 wc => ∃ (kq : Nat) (x150_70 : Bool), v150 = .bool x150_70 ∧ Aside0 (laws_FnCodes.j1 kq t657 t658 t659 t660 t661 t662 x150_70 = some r) ∧ Aside0 (kq ≤ kj18) ∧ Aside0 (Below w.heap.size w wc))
     case first =>
      have H := HC71.out
      clear HC71
      by_cases c72 : t667 = true
      ·subst c72
       have H1 : ((impl_PutHex.f kj18 t666).bind fun t681 => (if t681.toList = t663.toList then (if t671 = true then ((impl_PutBase64.f kj18 t670).bind fun t682 => (if t682.toList = t664.toList then (if t675 = true then ((impl_PutPercent.f kj18 t674).bind fun t683 => (laws_FnCodes.j1 kj18 t657 t658 t659 t660 t661 t662 (t683.toList != t665.toList))) else (laws_FnCodes.j1 kj18 t657 t658 t659 t660 t661 t662 false)) else (laws_FnCodes.j1 kj18 t657 t658 t659 t660 t661 t662 true))) else (if t675 = true then ((impl_PutPercent.f kj18 t674).bind fun t684 => (laws_FnCodes.j1 kj18 t657 t658 t659 t660 t661 t662 (t684.toList != t665.toList))) else (laws_FnCodes.j1 kj18 t657 t658 t659 t660 t661 t662 false))) else (laws_FnCodes.j1 kj18 t657 t658 t659 t660 t661 t662 true))) = some r := by rw [if_pos rfl] at H; exact H
       clear H
       have H := H1
       clear H1
       replace H := Option.bind_eq_some_iff.mp H
       obtain ⟨t681, A730, H⟩ := H
       replace H : (if t681.toList = t663.toList then (if t671 = true then ((impl_PutBase64.f kj18 t670).bind fun t682 => (if t682.toList = t664.toList then (if t675 = true then ((impl_PutPercent.f kj18 t674).bind fun t683 => (laws_FnCodes.j1 kj18 t657 t658 t659 t660 t661 t662 (t683.toList != t665.toList))) else (laws_FnCodes.j1 kj18 t657 t658 t659 t660 t661 t662 false)) else (laws_FnCodes.j1 kj18 t657 t658 t659 t660 t661 t662 true))) else (if t675 = true then ((impl_PutPercent.f kj18 t674).bind fun t684 => (laws_FnCodes.j1 kj18 t657 t658 t659 t660 t661 t662 (t684.toList != t665.toList))) else (laws_FnCodes.j1 kj18 t657 t658 t659 t660 t661 t662 false))) else (laws_FnCodes.j1 kj18 t657 t658 t659 t660 t661 t662 true)) = some r := H
       have A73 := Aside0.mk A730
       clear A730
       by_cases c74 : t681.toList = t663.toList
       ·rw [if_pos c74] at H
        have c74b0 : (t681.toList == t663.toList) = true := beq_iff_eq.mpr c74
        have c74b1 : (t681.toList != t663.toList) = false := bne_eq_false_iff_eq.mpr c74
        clear c74
        (first | rw [c74b0] | (simp only [i64_w, i32_w]; rw [c74b0]) | skip)
        by_cases c75 : t671 = true
        ·subst c75
         have H1 : ((impl_PutBase64.f kj18 t670).bind fun t682 => (if t682.toList = t664.toList then (if t675 = true then ((impl_PutPercent.f kj18 t674).bind fun t683 => (laws_FnCodes.j1 kj18 t657 t658 t659 t660 t661 t662 (t683.toList != t665.toList))) else (laws_FnCodes.j1 kj18 t657 t658 t659 t660 t661 t662 false)) else (laws_FnCodes.j1 kj18 t657 t658 t659 t660 t661 t662 true))) = some r := by rw [if_pos rfl] at H; exact H
         clear H
         have H := H1
         clear H1
         replace H := Option.bind_eq_some_iff.mp H
         obtain ⟨t682, A760, H⟩ := H
         replace H : (if t682.toList = t664.toList then (if t675 = true then ((impl_PutPercent.f kj18 t674).bind fun t683 => (laws_FnCodes.j1 kj18 t657 t658 t659 t660 t661 t662 (t683.toList != t665.toList))) else (laws_FnCodes.j1 kj18 t657 t658 t659 t660 t661 t662 false)) else (laws_FnCodes.j1 kj18 t657 t658 t659 t660 t661 t662 true)) = some r := H
         have A76 := Aside0.mk A760
         clear A760
         by_cases c77 : t682.toList = t664.toList
         ·rw [if_pos c77] at H
          have c77b0 : (t682.toList == t664.toList) = true := beq_iff_eq.mpr c77
          have c77b1 : (t682.toList != t664.toList) = false := bne_eq_false_iff_eq.mpr c77
          clear c77
          by_cases c78 : t675 = true
          ·subst c78
           have H1 : ((impl_PutPercent.f kj18 t674).bind fun t683 => (laws_FnCodes.j1 kj18 t657 t658 t659 t660 t661 t662 (t683.toList != t665.toList))) = some r := by rw [if_pos rfl] at H; exact H
           clear H
           have H := H1
           clear H1
           replace H := Option.bind_eq_some_iff.mp H
           obtain ⟨t683, A790, H⟩ := H
           replace H : (laws_FnCodes.j1 kj18 t657 t658 t659 t660 t661 t662 (t683.toList != t665.toList)) = some r := H
           have A79 := Aside0.mk A790
           clear A790
           have H' := Aside0.mk H
           clear H
           go_wp2_with (first | (go_at_call 53; (with_reducible refine (impl_PutHex.calls kj18 t666 t681 _ A73.out).mono ?_); rintro e w80 ⟨rfl, hb⟩; have n0_ := Aside0.mk (below_step (by repeat (first | (with_reducible first | exact HB.out | apply below_alloc | apply pw_below_drewN | apply below_drew1) | exact HB.out)) hb); clear HB; have HB := n0_; clear n0_; (try clear hb); (try clear hb2); (try clear hk); (try clear hi)) | (go_at_call 54; (with_reducible refine (impl_PutBase64.calls kj18 t670 t682 _ A76.out).mono ?_); rintro e w81 ⟨rfl, hb⟩; have n0_ := Aside0.mk (below_step (by repeat (first | (with_reducible first | exact HB.out | apply below_alloc | apply pw_below_drewN | apply below_drew1) | exact HB.out)) hb); clear HB; have HB := n0_; clear n0_; (try clear hb); (try clear hb2); (try clear hk); (try clear hi)) | (go_at_call 33; (with_reducible refine (impl_PutPercent.calls kj18 t674 t683 _ A79.out).mono ?_); rintro e w82 ⟨rfl, hb⟩; have n0_ := Aside0.mk (below_step (by repeat (first | (with_reducible first | exact HB.out | apply below_alloc | apply pw_below_drewN | apply below_drew1) | exact HB.out)) hb); clear HB; have HB := n0_; clear n0_; (try clear hb); (try clear hb2); (try clear hk); (try clear hi)))
           go_meet
           case rel => exact ⟨_, ((t683.toList != t665.toList)), (by first | rfl | (simp; done) | (simp [*]; done) | (simp; exact isEmpty_ne _)), H', ⟨by have := HJ18.out; first | omega | exact Nat.le_refl _⟩, ⟨by repeat (first | (with_reducible first | exact HB.out | apply below_alloc | apply pw_below_drewN | apply below_drew1) | exact HB.out)⟩⟩
          ·replace c78 := Bool.eq_false_iff.mpr c78
           subst c78
           have H1 : (laws_FnCodes.j1 kj18 t657 t658 t659 t660 t661 t662 false) = some r := by rw [if_neg (show ¬ (false = true) by decide)] at H; exact H
           clear H
           have H := H1
           clear H1
           have H' := Aside0.mk H
           clear H
           go_wp2_with (first | (go_at_call 53; (with_reducible refine (impl_PutHex.calls kj18 t666 t681 _ A73.out).mono ?_); rintro e w83 ⟨rfl, hb⟩; have n0_ := Aside0.mk (below_step (by repeat (first | (with_reducible first | exact HB.out | apply below_alloc | apply pw_below_drewN | apply below_drew1) | exact HB.out)) hb); clear HB; have HB := n0_; clear n0_; (try clear hb); (try clear hb2); (try clear hk); (try clear hi)) | (go_at_call 54; (with_reducible refine (impl_PutBase64.calls kj18 t670 t682 _ A76.out).mono ?_); rintro e w84 ⟨rfl, hb⟩; have n0_ := Aside0.mk (below_step (by repeat (first | (with_reducible first | exact HB.out | apply below_alloc | apply pw_below_drewN | apply below_drew1) | exact HB.out)) hb); clear HB; have HB := n0_; clear n0_; (try clear hb); (try clear hb2); (try clear hk); (try clear hi)))
           go_meet
           case rel => exact ⟨_, (false), (by first | rfl | (simp; done) | (simp [*]; done) | (simp; exact isEmpty_ne _)), H', ⟨by have := HJ18.out; first | omega | exact Nat.le_refl _⟩, ⟨by repeat (first | (with_reducible first | exact HB.out | apply below_alloc | apply pw_below_drewN | apply below_drew1) | exact HB.out)⟩⟩
         ·rw [if_neg c77] at H
          have c77b0 : (t682.toList == t664.toList) = false := beq_eq_false_iff_ne.mpr c77
          have c77b1 : (t682.toList != t664.toList) = true := bne_iff_ne.mpr c77
          first | exact absurd ((laws_FnCodes.j0_true _ _ _ _ _ _ _ _ _ _ _ _ _ _ _ _  H).symm.trans hr_) (by decide) | exact absurd ((laws_FnCodes.j1_true _ _ _ _ _ _ _  H).symm.trans hr_) (by decide)
        ·replace c75 := Bool.eq_false_iff.mpr c75
         subst c75
         have H1 : (if t675 = true then ((impl_PutPercent.f kj18 t674).bind fun t684 => (laws_FnCodes.j1 kj18 t657 t658 t659 t660 t661 t662 (t684.toList != t665.toList))) else (laws_FnCodes.j1 kj18 t657 t658 t659 t660 t661 t662 false)) = some r := by rw [if_neg (show ¬ (false = true) by decide)] at H; exact H
         clear H
         have H := H1
         clear H1
         by_cases c87 : t675 = true
         ·subst c87
          have H1 : ((impl_PutPercent.f kj18 t674).bind fun t684 => (laws_FnCodes.j1 kj18 t657 t658 t659 t660 t661 t662 (t684.toList != t665.toList))) = some r := by rw [if_pos rfl] at H; exact H
          clear H
          have H := H1
          clear H1
          replace H := Option.bind_eq_some_iff.mp H
          obtain ⟨t684, A880, H⟩ := H
          replace H : (laws_FnCodes.j1 kj18 t657 t658 t659 t660 t661 t662 (t684.toList != t665.toList)) = some r := H
          have A88 := Aside0.mk A880
          clear A880
          have H' := Aside0.mk H
          clear H
          go_wp2_with (first | (go_at_call 53; (with_reducible refine (impl_PutHex.calls kj18 t666 t681 _ A73.out).mono ?_); rintro e w89 ⟨rfl, hb⟩; have n0_ := Aside0.mk (below_step (by repeat (first | (with_reducible first | exact HB.out | apply below_alloc | apply pw_below_drewN | apply below_drew1) | exact HB.out)) hb); clear HB; have HB := n0_; clear n0_; (try clear hb); (try clear hb2); (try clear hk); (try clear hi)) | (go_at_call 33; (with_reducible refine (impl_PutPercent.calls kj18 t674 t684 _ A88.out).mono ?_); rintro e w90 ⟨rfl, hb⟩; have n0_ := Aside0.mk (below_step (by repeat (first | (with_reducible first | exact HB.out | apply below_alloc | apply pw_below_drewN | apply below_drew1) | exact HB.out)) hb); clear HB; have HB := n0_; clear n0_; (try clear hb); (try clear hb2); (try clear hk); (try clear hi)))
          go_meet
          case rel => exact ⟨_, ((t684.toList != t665.toList)), (by first | rfl | (simp; done) | (simp [*]; done) | (simp; exact isEmpty_ne _)), H', ⟨by have := HJ18.out; first | omega | exact Nat.le_refl _⟩, ⟨by repeat (first | (with_reducible first | exact HB.out | apply below_alloc | apply pw_below_drewN | apply below_drew1) | exact HB.out)⟩⟩
         ·replace c87 := Bool.eq_false_iff.mpr c87
          subst c87
          have H1 : (laws_FnCodes.j1 kj18 t657 t658 t659 t660 t661 t662 false) = some r := by rw [if_neg (show ¬ (false = true) by decide)] at H; exact H
          clear H
          have H := H1
          clear H1
          have H' := Aside0.mk H
          clear H
          go_wp2_with (first | (go_at_call 53; (with_reducible refine (impl_PutHex.calls kj18 t666 t681 _ A73.out).mono ?_); rintro e w91 ⟨rfl, hb⟩; have n0_ := Aside0.mk (below_step (by repeat (first | (with_reducible first | exact HB.out | apply below_alloc | apply pw_below_drewN | apply below_drew1) | exact HB.out)) hb); clear HB; have HB := n0_; clear n0_; (try clear hb); (try clear hb2); (try clear hk); (try clear hi)))
          go_meet
          case rel => exact ⟨_, (false), (by first | rfl | (simp; done) | (simp [*]; done) | (simp; exact isEmpty_ne _)), H', ⟨by have := HJ18.out; first | omega | exact Nat.le_refl _⟩, ⟨by repeat (first | (with_reducible first | exact HB.out | apply below_alloc | apply pw_below_drewN | apply below_drew1) | exact HB.out)⟩⟩
       ·rw [if_neg c74] at H
        have c74b0 : (t681.toList == t663.toList) = false := beq_eq_false_iff_ne.mpr c74
        have c74b1 : (t681.toList != t663.toList) = true := bne_iff_ne.mpr c74
        (first | rw [c74b0] | (simp only [i64_w, i32_w]; rw [c74b0]) | skip)
        first | exact absurd ((laws_FnCodes.j0_true _ _ _ _ _ _ _ _ _ _ _ _ _ _ _ _  H).symm.trans hr_) (by decide) | exact absurd ((laws_FnCodes.j1_true _ _ _ _ _ _ _  H).symm.trans hr_) (by decide)
      ·replace c72 := Bool.eq_false_iff.mpr c72
       subst c72
       have H1 : (if t671 = true then ((impl_PutBase64.f kj18 t670).bind fun t685 => (if t685.toList = t664.toList then (if t675 = true then ((impl_PutPercent.f kj18 t674).bind fun t686 => (laws_FnCodes.j1 kj18 t657 t658 t659 t660 t661 t662 (t686.toList != t665.toList))) else (laws_FnCodes.j1 kj18 t657 t658 t659 t660 t661 t662 false)) else (laws_FnCodes.j1 kj18 t657 t658 t659 t660 t661 t662 true))) else (if t675 = true then ((impl_PutPercent.f kj18 t674).bind fun t687 => (laws_FnCodes.j1 kj18 t657 t658 t659 t660 t661 t662 (t687.toList != t665.toList))) else (laws_FnCodes.j1 kj18 t657 t658 t659 t660 t661 t662 false))) = some r := by rw [if_neg (show ¬ (false = true) by decide)] at H; exact H
       clear H
       have H := H1
       clear H1
       by_cases c93 : t671 = true
       ·subst c93
        have H1 : ((impl_PutBase64.f kj18 t670).bind fun t685 => (if t685.toList = t664.toList then (if t675 = true then ((impl_PutPercent.f kj18 t674).bind fun t686 => (laws_FnCodes.j1 kj18 t657 t658 t659 t660 t661 t662 (t686.toList != t665.toList))) else (laws_FnCodes.j1 kj18 t657 t658 t659 t660 t661 t662 false)) else (laws_FnCodes.j1 kj18 t657 t658 t659 t660 t661 t662 true))) = some r := by rw [if_pos rfl] at H; exact H
        clear H
        have H := H1
        clear H1
        replace H := Option.bind_eq_some_iff.mp H
        obtain ⟨t685, A940, H⟩ := H
        replace H : (if t685.toList = t664.toList then (if t675 = true then ((impl_PutPercent.f kj18 t674).bind fun t686 => (laws_FnCodes.j1 kj18 t657 t658 t659 t660 t661 t662 (t686.toList != t665.toList))) else (laws_FnCodes.j1 kj18 t657 t658 t659 t660 t661 t662 false)) else (laws_FnCodes.j1 kj18 t657 t658 t659 t660 t661 t662 true)) = some r := H
        have A94 := Aside0.mk A940
        clear A940
        by_cases c95 : t685.toList = t664.toList
        ·rw [if_pos c95] at H
         have c95b0 : (t685.toList == t664.toList) = true := beq_iff_eq.mpr c95
         have c95b1 : (t685.toList != t664.toList) = false := bne_eq_false_iff_eq.mpr c95
         clear c95
         by_cases c96 : t675 = true
         ·subst c96
          have H1 : ((impl_PutPercent.f kj18 t674).bind fun t686 => (laws_FnCodes.j1 kj18 t657 t658 t659 t660 t661 t662 (t686.toList != t665.toList))) = some r := by rw [if_pos rfl] at H; exact H
          clear H
          have H := H1
          clear H1
          replace H := Option.bind_eq_some_iff.mp H
          obtain ⟨t686, A970, H⟩ := H
          replace H : (laws_FnCodes.j1 kj18 t657 t658 t659 t660 t661 t662 (t686.toList != t665.toList)) = some r := H
          have A97 := Aside0.mk A970
          clear A970
          have H' := Aside0.mk H
          clear H
          go_wp2_with (first | (go_at_call 54; (with_reducible refine (impl_PutBase64.calls kj18 t670 t685 _ A94.out).mono ?_); rintro e w98 ⟨rfl, hb⟩; have n0_ := Aside0.mk (below_step (by repeat (first | (with_reducible first | exact HB.out | apply below_alloc | apply pw_below_drewN | apply below_drew1) | exact HB.out)) hb); clear HB; have HB := n0_; clear n0_; (try clear hb); (try clear hb2); (try clear hk); (try clear hi)) | (go_at_call 33; (with_reducible refine (impl_PutPercent.calls kj18 t674 t686 _ A97.out).mono ?_); rintro e w99 ⟨rfl, hb⟩; have n0_ := Aside0.mk (below_step (by repeat (first | (with_reducible first | exact HB.out | apply below_alloc | apply pw_below_drewN | apply below_drew1) | exact HB.out)) hb); clear HB; have HB := n0_; clear n0_; (try clear hb); (try clear hb2); (try clear hk); (try clear hi)))
          go_meet
          case rel => exact ⟨_, ((t686.toList != t665.toList)), (by first | rfl | (simp; done) | (simp [*]; done) | (simp; exact isEmpty_ne _)), H', ⟨by have := HJ18.out; first | omega | exact Nat.le_refl _⟩, ⟨by repeat (first | (with_reducible first | exact HB.out | apply below_alloc | apply pw_below_drewN | apply below_drew1) | exact HB.out)⟩⟩
         ·replace c96 := Bool.eq_false_iff.mpr c96
          subst c96
          have H1 : (laws_FnCodes.j1 kj18 t657 t658 t659 t660 t661 t662 false) = some r := by rw [if_neg (show ¬ (false = true) by decide)] at H; exact H
          clear H
          have H := H1
          clear H1
          have H' := Aside0.mk H
          clear H
          go_wp2_with (first | (go_at_call 54; (with_reducible refine (impl_PutBase64.calls kj18 t670 t685 _ A94.out).mono ?_); rintro e w100 ⟨rfl, hb⟩; have n0_ := Aside0.mk (below_step (by repeat (first | (with_reducible first | exact HB.out | apply below_alloc | apply pw_below_drewN | apply below_drew1) | exact HB.out)) hb); clear HB; have HB := n0_; clear n0_; (try clear hb); (try clear hb2); (try clear hk); (try clear hi)))
          go_meet
          case rel => exact ⟨_, (false), (by first | rfl | (simp; done) | (simp [*]; done) | (simp; exact isEmpty_ne _)), H', ⟨by have := HJ18.out; first | omega | exact Nat.le_refl _⟩, ⟨by repeat (first | (with_reducible first | exact HB.out | apply below_alloc | apply pw_below_drewN | apply below_drew1) | exact HB.out)⟩⟩
        ·rw [if_neg c95] at H
         have c95b0 : (t685.toList == t664.toList) = false := beq_eq_false_iff_ne.mpr c95
         have c95b1 : (t685.toList != t664.toList) = true := bne_iff_ne.mpr c95
         first | exact absurd ((laws_FnCodes.j0_true _ _ _ _ _ _ _ _ _ _ _ _ _ _ _ _  H).symm.trans hr_) (by decide) | exact absurd ((laws_FnCodes.j1_true _ _ _ _ _ _ _  H).symm.trans hr_) (by decide)
       ·replace c93 := Bool.eq_false_iff.mpr c93
        subst c93
        have H1 : (if t675 = true then ((impl_PutPercent.f kj18 t674).bind fun t687 => (laws_FnCodes.j1 kj18 t657 t658 t659 t660 t661 t662 (t687.toList != t665.toList))) else (laws_FnCodes.j1 kj18 t657 t658 t659 t660 t661 t662 false)) = some r := by rw [if_neg (show ¬ (false = true) by decide)] at H; exact H
        clear H
        have H := H1
        clear H1
        by_cases c102 : t675 = true
        ·subst c102
         have H1 : ((impl_PutPercent.f kj18 t674).bind fun t687 => (laws_FnCodes.j1 kj18 t657 t658 t659 t660 t661 t662 (t687.toList != t665.toList))) = some r := by rw [if_pos rfl] at H; exact H
         clear H
         have H := H1
         clear H1
         replace H := Option.bind_eq_some_iff.mp H
         obtain ⟨t687, A1030, H⟩ := H
         replace H : (laws_FnCodes.j1 kj18 t657 t658 t659 t660 t661 t662 (t687.toList != t665.toList)) = some r := H
         have A103 := Aside0.mk A1030
         clear A1030
         have H' := Aside0.mk H
         clear H
         go_wp2_with (first | (go_at_call 33; (with_reducible refine (impl_PutPercent.calls kj18 t674 t687 _ A103.out).mono ?_); rintro e w104 ⟨rfl, hb⟩; have n0_ := Aside0.mk (below_step (by repeat (first | (with_reducible first | exact HB.out | apply below_alloc | apply pw_below_drewN | apply below_drew1) | exact HB.out)) hb); clear HB; have HB := n0_; clear n0_; (try clear hb); (try clear hb2); (try clear hk); (try clear hi)))
         go_meet
         case rel => exact ⟨_, ((t687.toList != t665.toList)), (by first | rfl | (simp; done) | (simp [*]; done) | (simp; exact isEmpty_ne _)), H', ⟨by have := HJ18.out; first | omega | exact Nat.le_refl _⟩, ⟨by repeat (first | (with_reducible first | exact HB.out | apply below_alloc | apply pw_below_drewN | apply below_drew1) | exact HB.out)⟩⟩
        ·replace c102 := Bool.eq_false_iff.mpr c102
         subst c102
         have H1 : (laws_FnCodes.j1 kj18 t657 t658 t659 t660 t661 t662 false) = some r := by rw [if_neg (show ¬ (false = true) by decide)] at H; exact H
         clear H
         have H := H1
         clear H1
         have H' := Aside0.mk H
         clear H
         go_wp2
         go_meet
         case rel => exact ⟨_, (false), (by first | rfl | (simp; done) | (simp [*]; done) | (simp; exact isEmpty_ne _)), H', ⟨by have := HJ18.out; first | omega | exact Nat.le_refl _⟩, ⟨by repeat (first | (with_reducible first | exact HB.out | apply below_alloc | apply pw_below_drewN | apply below_drew1) | exact HB.out)⟩⟩
     case rest =>
      clear HC71
      try clear c1
      try clear p2
      try clear c3
      try clear c4
      try clear c5
      try clear c6
      try clear c7
      try clear c8
      try clear c9
      try clear c10
      try clear c14
      try clear c30
      try clear c31
      try clear c33
      try clear c34
      try clear c35
      try clear c36
      try clear c36b0
      try clear c36b1
      try clear c38
      try clear c38b0
      try clear c38b1
      try clear c40
      try clear c40b0
      try clear c40b1
      try clear c41
      try clear c41b0
      try clear c41b1
      try clear c42
      try clear c42b0
      try clear c42b1
      try clear c42b2
      try clear c46
      try clear c46b0
      try clear c46b1
      try clear c47
      try clear c47b0
      try clear c47b1
      try clear c47b2
      try clear c49
      try clear c50
      try clear c51
      try clear c51b0
      try clear c51b1
      try clear c52
      try clear c53
      try clear c54
      try clear c55
      try clear c56
      try clear c57
      try clear c58
      try clear c59
      try clear c60
      try clear c70
      try clear c72
      try clear c74
      try clear c74b0
      try clear c74b1
      try clear c75
      try clear c77
      try clear c77b0
      try clear c77b1
      try clear c78
      try clear c87
      try clear c93
      try clear c95
      try clear c95b0
      try clear c95b1
      try clear c96
      try clear c102
      try clear p2
      obtain ⟨kq, x150_70, rfl, HA, HJ70, HB⟩ := hcut
      cases kq with
      | zero => exact absurd HA.out (by simp [laws_FnCodes.j1])
      | succ kj70 =>
       have H := HA.out
       clear HA
       simp only [laws_FnCodes.j1] at H
       by_cases c105 : x150_70 = true
       ·subst c105
        have H1 : (some false) = some r := by rw [if_pos rfl] at H; exact H
        clear H
        have H := H1
        clear H1
        exact absurd ((Option.some.inj H).trans hr_) (by decide)
       ·replace c105 := Bool.eq_false_iff.mpr c105
        subst c105
        have H1 : ((impl_GetHex.f kj70 t660).bind fun bt688 => ((impl_GetBase64.f kj70 t661).bind fun bt690 => ((impl_GetPercent.f kj70 t662).bind fun bt692 => (if bt688.2 = true then (if bt690.2 = true then (if bt692.2 = true then (if bt688.1.toList = t657.toList then (if bt690.1.toList = t658.toList then (if bt692.1.toList = t659.toList then (some (((t661.size : Int) % 4) == 0)) else (some false)) else (some false)) else (some false)) else (some false)) else (some false)) else (some false))))) = some r := by rw [if_neg (show ¬ (false = true) by decide)] at H; exact H
        clear H
        have H := H1
        clear H1
        replace H := Option.bind_eq_some_iff.mp H
        obtain ⟨⟨t688, t689⟩, A1060, H⟩ := H
        replace H : ((impl_GetBase64.f kj70 t661).bind fun bt690 => ((impl_GetPercent.f kj70 t662).bind fun bt692 => (if t689 = true then (if bt690.2 = true then (if bt692.2 = true then (if t688.toList = t657.toList then (if bt690.1.toList = t658.toList then (if bt692.1.toList = t659.toList then (some (((t661.size : Int) % 4) == 0)) else (some false)) else (some false)) else (some false)) else (some false)) else (some false)) else (some false)))) = some r := H
        have A106 := Aside0.mk A1060
        clear A1060
        replace H := Option.bind_eq_some_iff.mp H
        obtain ⟨⟨t690, t691⟩, A1070, H⟩ := H
        replace H : ((impl_GetPercent.f kj70 t662).bind fun bt692 => (if t689 = true then (if t691 = true then (if bt692.2 = true then (if t688.toList = t657.toList then (if t690.toList = t658.toList then (if bt692.1.toList = t659.toList then (some (((t661.size : Int) % 4) == 0)) else (some false)) else (some false)) else (some false)) else (some false)) else (some false)) else (some false))) = some r := H
        have A107 := Aside0.mk A1070
        clear A1070
        replace H := Option.bind_eq_some_iff.mp H
        obtain ⟨⟨t692, t693⟩, A1080, H⟩ := H
        replace H : (if t689 = true then (if t691 = true then (if t693 = true then (if t688.toList = t657.toList then (if t690.toList = t658.toList then (if t692.toList = t659.toList then (some (((t661.size : Int) % 4) == 0)) else (some false)) else (some false)) else (some false)) else (some false)) else (some false)) else (some false)) = some r := H
        have A108 := Aside0.mk A1080
        clear A1080
        by_cases c109 : t689 = true
        ·subst c109
         have H1 : (if t691 = true then (if t693 = true then (if t688.toList = t657.toList then (if t690.toList = t658.toList then (if t692.toList = t659.toList then (some (((t661.size : Int) % 4) == 0)) else (some false)) else (some false)) else (some false)) else (some false)) else (some false)) = some r := by rw [if_pos rfl] at H; exact H
         clear H
         have H := H1
         clear H1
         by_cases c110 : t691 = true
         ·subst c110
          have H1 : (if t693 = true then (if t688.toList = t657.toList then (if t690.toList = t658.toList then (if t692.toList = t659.toList then (some (((t661.size : Int) % 4) == 0)) else (some false)) else (some false)) else (some false)) else (some false)) = some r := by rw [if_pos rfl] at H; exact H
          clear H
          have H := H1
          clear H1
          by_cases c111 : t693 = true
          ·subst c111
           have H1 : (if t688.toList = t657.toList then (if t690.toList = t658.toList then (if t692.toList = t659.toList then (some (((t661.size : Int) % 4) == 0)) else (some false)) else (some false)) else (some false)) = some r := by rw [if_pos rfl] at H; exact H
           clear H
           have H := H1
           clear H1
           by_cases c112 : t688.toList = t657.toList
           ·rw [if_pos c112] at H
            have c112b0 : (t688.toList == t657.toList) = true := beq_iff_eq.mpr c112
            have c112b1 : (t688.toList != t657.toList) = false := bne_eq_false_iff_eq.mpr c112
            clear c112
            by_cases c113 : t690.toList = t658.toList
            ·rw [if_pos c113] at H
             have c113b0 : (t690.toList == t658.toList) = true := beq_iff_eq.mpr c113
             have c113b1 : (t690.toList != t658.toList) = false := bne_eq_false_iff_eq.mpr c113
             clear c113
             by_cases c114 : t692.toList = t659.toList
             ·rw [if_pos c114] at H
              have c114b0 : (t692.toList == t659.toList) = true := beq_iff_eq.mpr c114
              have c114b1 : (t692.toList != t659.toList) = false := bne_eq_false_iff_eq.mpr c114
              clear c114
              obtain rfl := Option.some.inj H
              go_wp2_with (first | ((with_reducible refine gate_callee (f := 58) rfl ?_); refine goesL_ (some 153) rfl rfl Tryd.func58 (by kernel_rfl) rfl #[.string t660] rfl (by (try simp only [List.map_toArray, List.map_cons, List.map_nil]); first | done | rfl | (simp only [List.length_drop, List.length_take]; rfl)) ?_; (with_reducible refine (impl_GetHex.calls kj70 t660 t688 true _ A106.out).mono ?_); rintro e w115 ⟨rfl, hb⟩; refine ⟨_, rfl, ?_⟩; have n0_ := Aside0.mk (below_step (by repeat (first | (with_reducible first | exact HB.out | apply below_alloc | apply pw_below_drewN | apply below_drew1) | exact HB.out)) hb); clear HB; have HB := n0_; clear n0_; (try clear hb); (try clear hb2); (try clear hk); (try clear hi)) | ((with_reducible refine gate_callee (f := 31) rfl ?_); refine goesL_ (some 158) rfl rfl Tryd.func31 (by kernel_rfl) rfl #[.string t661] rfl (by (try simp only [List.map_toArray, List.map_cons, List.map_nil]); first | done | rfl | (simp only [List.length_drop, List.length_take]; rfl)) ?_; (with_reducible refine (impl_GetBase64.calls kj70 t661 t690 true _ A107.out).mono ?_); rintro e w116 ⟨rfl, hb⟩; refine ⟨_, rfl, ?_⟩; have n0_ := Aside0.mk (below_step (by repeat (first | (with_reducible first | exact HB.out | apply below_alloc | apply pw_below_drewN | apply below_drew1) | exact HB.out)) hb); clear HB; have HB := n0_; clear n0_; (try clear hb); (try clear hb2); (try clear hk); (try clear hi)) | ((with_reducible refine gate_callee (f := 35) rfl ?_); refine goesL_ (some 163) rfl rfl Tryd.func35 (by kernel_rfl) rfl #[.string t662] rfl (by (try simp only [List.map_toArray, List.map_cons, List.map_nil]); first | done | rfl | (simp only [List.length_drop, List.length_take]; rfl)) ?_; (with_reducible refine (impl_GetPercent.calls kj70 t662 t692 true _ ?side1 A108.out).mono ?_); (case side1 => exact Glob.below HGC.out (by repeat (first | (with_reducible first | exact HB.out | apply below_alloc | apply pw_below_drewN | apply below_drew1) | exact HB.out))); rintro e w117 ⟨rfl, hb⟩; refine ⟨_, rfl, ?_⟩; have n0_ := Aside0.mk (below_step (by repeat (first | (with_reducible first | exact HB.out | apply below_alloc | apply pw_below_drewN | apply below_drew1) | exact HB.out)) hb); clear HB; have HB := n0_; clear n0_; (try clear hb); (try clear hb2); (try clear hk); (try clear hi)))
              go_ret
              exact ⟨by first | rfl | (simp [errW_none, errW_some] <;> rfl) | (simp [*, errW_none, errW_some] <;> rfl), by repeat (first | (with_reducible first | exact HB.out | apply below_alloc | apply pw_below_drewN | apply below_drew1) | exact HB.out)⟩
             ·rw [if_neg c114] at H
              have c114b0 : (t692.toList == t659.toList) = false := beq_eq_false_iff_ne.mpr c114
              have c114b1 : (t692.toList != t659.toList) = true := bne_iff_ne.mpr c114
              exact absurd ((Option.some.inj H).trans hr_) (by decide)
            ·rw [if_neg c113] at H
             have c113b0 : (t690.toList == t658.toList) = false := beq_eq_false_iff_ne.mpr c113
             have c113b1 : (t690.toList != t658.toList) = true := bne_iff_ne.mpr c113
             exact absurd ((Option.some.inj H).trans hr_) (by decide)
           ·rw [if_neg c112] at H
            have c112b0 : (t688.toList == t657.toList) = false := beq_eq_false_iff_ne.mpr c112
            have c112b1 : (t688.toList != t657.toList) = true := bne_iff_ne.mpr c112
            exact absurd ((Option.some.inj H).trans hr_) (by decide)
          ·replace c111 := Bool.eq_false_iff.mpr c111
           subst c111
           have H1 : (some false) = some r := by rw [if_neg (show ¬ (false = true) by decide)] at H; exact H
           clear H
           have H := H1
           clear H1
           exact absurd ((Option.some.inj H).trans hr_) (by decide)
         ·replace c110 := Bool.eq_false_iff.mpr c110
          subst c110
          have H1 : (some false) = some r := by rw [if_neg (show ¬ (false = true) by decide)] at H; exact H
          clear H
          have H := H1
          clear H1
          exact absurd ((Option.some.inj H).trans hr_) (by decide)
        ·replace c109 := Bool.eq_false_iff.mpr c109
         subst c109
         have H1 : (some false) = some r := by rw [if_neg (show ¬ (false = true) by decide)] at H; exact H
         clear H
         have H := H1
         clear H1
         exact absurd ((Option.some.inj H).trans hr_) (by decide)

/-- THE ONE PURE STATEMENT of laws_FnCodes. -/
def laws_FnCodes.Pure : Prop := ∀ (l0 : List Int), (l0.length ≤ maxLen ∧ ∀ x_ ∈ l0, (Lit.int .u8 x_).wf = true) → ∃ k, laws_FnCodes.f k l0 = some true

end Go.Proofs.YtgfaphlpkjikkaaDoor.G
