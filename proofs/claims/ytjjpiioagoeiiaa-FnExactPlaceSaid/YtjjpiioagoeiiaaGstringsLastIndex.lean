-- PRINTED by print.py (a twelfth state) out of the translation. Not trusted: Lean checks it.
import Derived.Test.YtjjpiioagoeiiaaG0
import Derived.Test.YtjjpiioagoeiiaaShelf
namespace Go.Proofs.Ytjjpiioagoeiiaa.G
open Go.RowKit Go.Proofs.YtjjpiioagoeiiaaW.PrintWords Go.Proofs.YtjjpiioagoeiiaaW.PrintLast Go.Proofs.YtjjpiioagoeiiaaW.PrintMore
attribute [local go_sem] max2_int min2_int max_two min_two max_three min_three max_four min_four   -- for this text's walks alone
set_option linter.unusedVariables false
set_option linter.unusedSimpArgs false

/-! ### strings_LastIndex: function 40 -/
-- GIVEN strings.LastIndex
-- IMPORT Derived.Test.YtjjpiioagoeiiaaShelf
def strings_LastIndex.f (a0 : ByteArray) (a1 : ByteArray) : Option Int := if a0.size < 4611686018427387904 then some (Lib.lastIndex a0.data.toList a1.data.toList) else none
theorem strings_LastIndex.calls (a0 : ByteArray) (a1 : ByteArray) (r : Int) (w : World) (h : strings_LastIndex.f a0 a1 = some r) :
    Calls Try.prog 40 #[.string a0, .string a1] w fun e w' => e = .returned (.int .i64 r) ∧ Drawn0 w w' := by
  unfold strings_LastIndex.f at h
  split at h
  · rename_i h1
    obtain rfl := Option.some.inj h
    exact (Try.strings_LastIndex a0 a1 h1 w).mono fun e w' ⟨h1, h2⟩ => ⟨h1, h2 ▸ Drawn0.refl _⟩
  · cases h


end Go.Proofs.Ytjjpiioagoeiiaa.G
