-- PRINTED by print.py (a twelfth state) out of the translation. Not trusted: Lean checks it.
import Derived.Test.YtgfaphlpkjikkaaDoorG0
import Derived.Test.YtgfaphlpkjikkaaDoorGspecGetPercent
import Derived.Test.YtgfaphlpkjikkaaDoorGimplGetPercent
namespace Go.Proofs.YtgfaphlpkjikkaaDoor.G
open Go.RowKit Go.Proofs.YtgfaphlpkjikkaaDoorW.PrintWords Go.Proofs.YtgfaphlpkjikkaaDoorW.PrintLast Go.Proofs.YtgfaphlpkjikkaaDoorW.PrintMore
attribute [local go_sem] max2_int min2_int max_two min_two max_three min_three max_four min_four   -- for this text's walks alone
attribute [local go_sem high] Go.Proofs.YtgfaphlpkjikkaaDoor.G.str_gtr Go.Proofs.YtgfaphlpkjikkaaDoor.G.str_leq Go.Proofs.YtgfaphlpkjikkaaDoor.G.str_geq
set_option linter.unusedVariables false
set_option linter.unusedSimpArgs false

/-! ### laws_FnExactGetPercent: function 9 -/
def laws_FnExactGetPercent.f (k : Nat) (a0 : ByteArray) : Option (Bool) := if (a0.size : Int) > 1048576 then (some true) else ((spec_GetPercent.f k a0).bind fun bt274 => ((impl_GetPercent.f k a0).bind fun bt276 => (if bt276.1.toList = bt274.1.toList then (if (bt276.2 != bt274.2) = true then (some false) else (some true)) else (some false))))
theorem laws_FnExactGetPercent.mono : ∀ a0 k, LeO (laws_FnExactGetPercent.f k a0) (laws_FnExactGetPercent.f (k + 1) a0) := by
  intro a0 k
  unfold laws_FnExactGetPercent.f
  repeat' first
      | (with_reducible exact impl_GetPercent.mono _ _)
      | (with_reducible exact spec_GetPercent.mono _ _)
      | (with_reducible exact LeO.refl _)
      | (with_reducible exact LeO.none _)
      | (with_reducible refine LeO.ite ?_ ?_)
      | (with_reducible refine LeO.bind ?_ (fun _ => ?_))
      | exact impl_GetPercent.mono _ _
      | exact spec_GetPercent.mono _ _
      | exact LeO.none _
      | refine LeO.ite ?_ ?_
      | refine LeO.bind ?_ (fun _ => ?_)
set_option maxHeartbeats 8000000 in
set_option maxRecDepth 100000 in
theorem laws_FnExactGetPercent.calls (k : Nat) (a0 : ByteArray) (r : Bool) (w : World) (hGC : Glob FactC w) (hr_ : r = true) (h : laws_FnExactGetPercent.f k a0 = some r) :
    Calls Tryd.prog 9 #[.string a0] w fun e w' => e = .returned (.bool r) ∧ Below w.heap.size w w' := by
  have HB := Aside0.mk (Below.refl w.heap.size w)
  have HGC := Aside0.mk hGC
  clear hGC
  have H : (if (a0.size : Int) > 1048576 then (some true) else ((spec_GetPercent.f k a0).bind fun bt274 => ((impl_GetPercent.f k a0).bind fun bt276 => (if bt276.1.toList = bt274.1.toList then (if (bt276.2 != bt274.2) = true then (some false) else (some true)) else (some false))))) = some r := h
  clear h
  by_cases c2 : (a0.size : Int) > 1048576
  · rw [if_pos c2] at H
    have c2b0 : decide (1048576 < (a0.size : Int)) = true := decide_eq_true c2
    have c2b1 : decide (1048576 < a0.size) = true := decide_eq_true (by omega)
    clear c2
    obtain rfl := Option.some.inj H
    go_enter Tryd.func9, Tryd.ntmps9
    go_wp2
    go_ret
    exact ⟨by first | rfl | (simp [errW_none, errW_some] <;> rfl) | (simp [*, errW_none, errW_some] <;> rfl), by repeat (first | (with_reducible first | exact HB.out | apply below_alloc | apply pw_below_drewN | apply below_drew1) | exact HB.out)⟩
  · rw [if_neg c2] at H
    have c2b0 : decide (1048576 < (a0.size : Int)) = false := decide_eq_false c2
    have c2b1 : decide (1048576 < a0.size) = false := decide_eq_false (by omega)
    clear c2
    replace H := Option.bind_eq_some_iff.mp H
    obtain ⟨⟨t274, t275⟩, A30, H⟩ := H
    replace H : ((impl_GetPercent.f k a0).bind fun bt276 => (if bt276.1.toList = t274.toList then (if (bt276.2 != t275) = true then (some false) else (some true)) else (some false))) = some r := H
    have A3 := Aside0.mk A30
    clear A30
    replace H := Option.bind_eq_some_iff.mp H
    obtain ⟨⟨t276, t277⟩, A40, H⟩ := H
    replace H : (if t276.toList = t274.toList then (if (t277 != t275) = true then (some false) else (some true)) else (some false)) = some r := H
    have A4 := Aside0.mk A40
    clear A40
    by_cases c5 : t276.toList = t274.toList
    · rw [if_pos c5] at H
      have c5b0 : (t276.toList == t274.toList) = true := beq_iff_eq.mpr c5
      have c5b1 : (t276.toList != t274.toList) = false := bne_eq_false_iff_eq.mpr c5
      clear c5
      by_cases c6 : (t277 != t275) = true
      · rw [if_pos c6] at H
        have c6b0 : (t277 != t275) = true := c6
        (try (have c6b1 : decide (t277 = t275) = false := by simpa using c6))
        (try (have c6b2 : (t277 == t275) = false := by simpa using c6))
        (try (have c6b3 : ¬ (t277 = t275) := by simpa using c6))
        clear c6
        exact absurd ((Option.some.inj H).trans hr_) (by decide)
      · rw [if_neg c6] at H
        have c6b0 : (t277 != t275) = false := by simpa using c6
        (try (have c6b1 : decide (t277 = t275) = true := by simpa using c6))
        (try (have c6b2 : (t277 == t275) = true := by simpa using c6))
        clear c6
        obtain rfl := Option.some.inj H
        go_enter Tryd.func9, Tryd.ntmps9
        go_wp2_with (first | ((with_reducible refine gate_callee (f := 34) rfl ?_); refine goesL_ (some 12) rfl rfl Tryd.func34 (by kernel_rfl) rfl #[.string a0] rfl (by (try simp only [List.map_toArray, List.map_cons, List.map_nil]); first | done | rfl | (simp only [List.length_drop, List.length_take]; rfl)) ?_; (with_reducible refine (spec_GetPercent.calls k a0 t274 t275 _ A3.out).mono ?_); rintro e w7 ⟨rfl, hb⟩; refine ⟨_, rfl, ?_⟩; have n0_ := Aside0.mk (below_step (by repeat (first | (with_reducible first | exact HB.out | apply below_alloc | apply pw_below_drewN | apply below_drew1) | exact HB.out)) hb); clear HB; have HB := n0_; clear n0_; (try clear hb); (try clear hb2); (try clear hk); (try clear hi)) | ((with_reducible refine gate_callee (f := 35) rfl ?_); refine goesL_ (some 17) rfl rfl Tryd.func35 (by kernel_rfl) rfl #[.string a0] rfl (by (try simp only [List.map_toArray, List.map_cons, List.map_nil]); first | done | rfl | (simp only [List.length_drop, List.length_take]; rfl)) ?_; (with_reducible refine (impl_GetPercent.calls k a0 t276 t277 _ ?side1 A4.out).mono ?_); (case side1 => exact Glob.below HGC.out (by repeat (first | (with_reducible first | exact HB.out | apply below_alloc | apply pw_below_drewN | apply below_drew1) | exact HB.out))); rintro e w8 ⟨rfl, hb⟩; refine ⟨_, rfl, ?_⟩; have n0_ := Aside0.mk (below_step (by repeat (first | (with_reducible first | exact HB.out | apply below_alloc | apply pw_below_drewN | apply below_drew1) | exact HB.out)) hb); clear HB; have HB := n0_; clear n0_; (try clear hb); (try clear hb2); (try clear hk); (try clear hi)))
        go_ret
        exact ⟨by first | rfl | (simp [errW_none, errW_some] <;> rfl) | (simp [*, errW_none, errW_some] <;> rfl), by repeat (first | (with_reducible first | exact HB.out | apply below_alloc | apply pw_below_drewN | apply below_drew1) | exact HB.out)⟩
    · rw [if_neg c5] at H
      have c5b0 : (t276.toList == t274.toList) = false := beq_eq_false_iff_ne.mpr c5
      have c5b1 : (t276.toList != t274.toList) = true := bne_iff_ne.mpr c5
      exact absurd ((Option.some.inj H).trans hr_) (by decide)

/-- THE ONE PURE STATEMENT of laws_FnExactGetPercent. -/
def laws_FnExactGetPercent.Pure : Prop := ∀ (a0 : ByteArray), a0.size ≤ maxLen → ∃ k, laws_FnExactGetPercent.f k a0 = some true

end Go.Proofs.YtgfaphlpkjikkaaDoor.G
