-- PRINTED by print.py (a twelfth state) out of the translation. Not trusted: Lean checks it.
import Derived.Test.YtgfaphlpkjikkaaDoorG0
import Derived.Test.YtgfaphlpkjikkaaDoorShelf
namespace Go.Proofs.YtgfaphlpkjikkaaDoor.G
open Go.RowKit Go.Proofs.YtgfaphlpkjikkaaDoorW.PrintWords Go.Proofs.YtgfaphlpkjikkaaDoorW.PrintLast Go.Proofs.YtgfaphlpkjikkaaDoorW.PrintMore
attribute [local go_sem] max2_int min2_int max_two min_two max_three min_three max_four min_four   -- for this text's walks alone
attribute [local go_sem high] Go.Proofs.YtgfaphlpkjikkaaDoor.G.str_gtr Go.Proofs.YtgfaphlpkjikkaaDoor.G.str_leq Go.Proofs.YtgfaphlpkjikkaaDoor.G.str_geq
set_option linter.unusedVariables false
set_option linter.unusedSimpArgs false

/-! ### strings_ToLower: function 89 -/
-- GIVEN strings.ToLower
-- MAKING yes
-- GLOB C
-- IMPORT Derived.Test.YtgfaphlpkjikkaaDoorShelf
def strings_ToLower.f (a0 : ByteArray) : Option ByteArray := if a0.size < 35184372088832 then some ⟨(Lib.toLowerD a0.data.toList).toArray⟩ else none
theorem strings_ToLower.calls (a0 : ByteArray) (r : ByteArray) (w : World) (hGC : Glob FactC w) (h : strings_ToLower.f a0 = some r) :
  Calls Tryd.prog 89 #[.string a0] w fun e w' => e = .returned (.string r) ∧ Below w.heap.size w w' := by
 unfold strings_ToLower.f at h
 by_cases hc : a0.size < 35184372088832
 ·rw [if_pos hc] at h
  obtain rfl := Option.some.inj h
  obtain ⟨hV, hT⟩ := FactC.here hGC
  exact Tryd.strings_ToLower_any a0 w hc hV hT
 ·rw [if_neg hc] at h; cases h


end Go.Proofs.YtgfaphlpkjikkaaDoor.G
