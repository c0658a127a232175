-- PRINTED by print.py (a twelfth state) out of the translation. Not trusted: Lean checks it.
import Derived.Test.YtbepbfibanmhoaaGreatDoorG0
import Derived.Test.YtbepbfibanmhoaaGreatDoorGimplwithin
import Derived.Test.YtbepbfibanmhoaaGreatDoorGimplDecText
import Derived.Lib.SmallJoins
import Derived.Test.YtbepbfibanmhoaaGreatDoorShelf
namespace Go.Proofs.YtbepbfibanmhoaaGreatDoor.G
open Go.RowKit Go.Proofs.YtbepbfibanmhoaaGreatDoorW.PrintWords Go.Proofs.YtbepbfibanmhoaaGreatDoorW.PrintLast Go.Proofs.YtbepbfibanmhoaaGreatDoorW.PrintMore
attribute [local go_sem] max2_int min2_int max_two min_two max_three min_three max_four min_four   -- for this text's walks alone
attribute [local go_sem high] Go.Proofs.YtbepbfibanmhoaaGreatDoor.G.str_gtr Go.Proofs.YtbepbfibanmhoaaGreatDoor.G.str_leq Go.Proofs.YtbepbfibanmhoaaGreatDoor.G.str_geq
set_option linter.unusedVariables false
set_option linter.unusedSimpArgs false

/-! ### impl_ReadDec: function 59 -/
-- GIVEN loop.example/g00445/impl.ReadDec
-- DEPS loop.example/g00445/impl.within loop.example/g00445/impl.DecText
-- MAKING yes
-- GLOB E T
-- IMPORT Derived.Test.YtbepbfibanmhoaaGreatDoorShelf
-- IMPORT Derived.Lib.SmallJoins
def impl_ReadDec.f (a0 : ByteArray) : Option Int := if a0.size ≤ 281474976710656 then (match Lib.atoiAll a0.data.toList with | .ok n => (impl_within.f n 0 999999999).bind fun t => if t = true then (impl_DecText.f n).bind fun s => if s.toList = a0.toList then some n else some (-1) else some (-1) | _ => some (-1)) else none
set_option maxRecDepth 100000 in
theorem impl_ReadDec.zl1 {P : Prop} (h : P := by
 go_enter Tryz.func59, Tryz.ntmps59
 go_wp2_with (first | (go_at_call 85; (with_reducible refine C.out.mono ?_); rintro e w' ⟨rfl, hb⟩; have n0_ := Aside0.mk (below_step zb0 hb); clear HB; have HB := n0_; clear n0_; (try clear hb)) | (go_at_call 61; (with_reducible refine (impl_within.calls n 0 999999999 true _ Aw.out).mono ?_); rintro e w' ⟨rfl, ⟨nd, rfl⟩⟩) | (go_at_call 86; (with_reducible refine (impl_DecText.calls n ts _ ?side1 As.out).mono ?_); (case side1 => exact Glob.below HGT.out zb0); rintro e w3 ⟨rfl, hb⟩; have n0_ := Aside0.mk (below_step zb0 hb); clear HB; have HB := n0_; clear n0_; (try clear hb)) | (go_at_call 61; (with_reducible refine (impl_within.calls n 0 999999999 false _ Aw.out).mono ?_); rintro e w' ⟨rfl, ⟨nd, rfl⟩⟩))
 go_ret
 exact ⟨by first | rfl | (simp; done), by repeat (first | (with_reducible first | exact HB.out | apply below_alloc | apply pw_below_drewN | apply below_drew1) | exact HB.out)⟩) : P := h
set_option maxHeartbeats 8000000 in
set_option maxRecDepth 100000 in
theorem impl_ReadDec.calls (a0 : ByteArray) (r : Int) (w : World) (hGE : Glob FactE w) (hGT : Glob FactT w) (h : impl_ReadDec.f a0 = some r) :
  Calls Tryz.prog 59 #[.string a0] w fun e w' => e = .returned (.int .i64 r) ∧ Below w.heap.size w w' := by
 have HB := Aside0.mk (Below.refl w.heap.size w)
 have HGT := Aside0.mk hGT
 clear hGT
 unfold impl_ReadDec.f at h
 by_cases hc : a0.size ≤ 281474976710656
 case neg => rw [if_neg hc] at h; cases h
 rw [if_pos hc] at h
 obtain ⟨⟨t1, p1, e1⟩, ⟨t2, p2, e2⟩⟩ := FactE.here hGE
 clear hGE
 cases ha : Lib.atoiAll a0.data.toList
 ·rename_i n
  rw [ha] at h
  have C : Calls Tryz.prog 85 #[.string a0] w fun e w' => e = .returned (.tuple #[.int .i64 n, .nilIface]) ∧ Below w.heap.size w w' := by
   refine (Tryz.strconv_Atoi_ok a0 (by omega) n ha w).mono fun e w' ⟨h1, h2⟩ => ⟨h1, ?_⟩
   rcases h2 with rfl | ⟨t, rfl⟩
   ·exact Below.refl _ _
   ·exact Go.Joins.below_bytesWorld _ w _ t (Nat.le_refl _)
  replace C := Aside0.mk C
  clear ha e1 e2
  have H : ((impl_within.f n 0 999999999).bind fun t => if t = true then (impl_DecText.f n).bind fun s => if s.toList = a0.toList then some n else some (-1) else some (-1)) = some r := h
  clear h
  replace H := Option.bind_eq_some_iff.mp H
  obtain ⟨tw, Aw0, H⟩ := H
  have Aw := Aside0.mk Aw0
  clear Aw0
  replace H : (if tw = true then (impl_DecText.f n).bind fun s => if s.toList = a0.toList then some n else some (-1) else some (-1)) = some r := H
  cases tw with
  | false =>
   rw [if_neg (by decide)] at H
   obtain rfl := Option.some.inj H
   exact impl_ReadDec.zl1
  | true =>
   rw [if_pos rfl] at H
   replace H := Option.bind_eq_some_iff.mp H
   obtain ⟨ts, As0, H⟩ := H
   have As := Aside0.mk As0
   clear As0
   replace H : (if ts.toList = a0.toList then some n else some (-1)) = some r := H
   by_cases c4 : ts.toList = a0.toList
   ·rw [if_pos c4] at H
    have c4b0 : (ts.toList == a0.toList) = true := beq_iff_eq.mpr c4
    have c4b1 : (ts.toList != a0.toList) = false := bne_eq_false_iff_eq.mpr c4
    clear c4
    obtain rfl := Option.some.inj H
    exact impl_ReadDec.zl1
   ·rw [if_neg c4] at H
    have c4b0 : (ts.toList == a0.toList) = false := beq_eq_false_iff_ne.mpr c4
    have c4b1 : (ts.toList != a0.toList) = true := bne_iff_ne.mpr c4
    clear c4
    obtain rfl := Option.some.inj H
    exact impl_ReadDec.zl1
 ·rw [ha] at h
  obtain rfl := Option.some.inj h
  have C0 := Any.strconv_Atoi_syntax_var Tryz.laysC172 a0 hc ha t1 p1 w e1
  have C1 : Calls Tryz.prog 85 #[.string a0] w fun e w' => ∃ N t, e = .returned (.tuple #[.int .i64 0, .iface t (.pointer (some ⟨N, 0, none⟩))]) ∧ Below w.heap.size w w' :=
   (show Calls Tryz.prog 85 _ _ _ from C0).mono fun e w' ⟨N, h1, _, _, h4⟩ => ⟨N, _, h1, h4⟩
  have C := Aside0.mk C1
  clear C0 C1
  clear ha e1 e2 h
  go_enter Tryz.func59, Tryz.ntmps59
  go_wp2_with (go_at_call 85; (with_reducible refine C.out.mono ?_); rintro e w' ⟨NE, TE, rfl, hb⟩; have n0_ := Aside0.mk (below_step zb0 hb); clear HB; have HB := n0_; clear n0_; (try clear hb))
  go_ret
  exact ⟨by first | rfl | (simp; done), by repeat (first | (with_reducible first | exact HB.out | apply below_alloc | apply pw_below_drewN | apply below_drew1) | exact HB.out)⟩
 ·rw [ha] at h
  obtain rfl := Option.some.inj h
  have C := Aside0.mk (Tryz.strconv_Atoi_range_var a0 hc ha t2 p2 w e2)
  clear ha e1 e2 h
  go_enter Tryz.func59, Tryz.ntmps59
  go_wp2_with (go_at_call 85; (with_reducible refine C.out.mono ?_); rintro e w' ⟨NE, rfl, -, -, hb⟩; have n0_ := Aside0.mk (below_step zb0 hb); clear HB; have HB := n0_; clear n0_; (try clear hb))
  go_ret
  exact ⟨by first | rfl | (simp; done), by repeat (first | (with_reducible first | exact HB.out | apply below_alloc | apply pw_below_drewN | apply below_drew1) | exact HB.out)⟩


end Go.Proofs.YtbepbfibanmhoaaGreatDoor.G
