-- PRINTED by print.py (a twelfth state) out of the translation. Not trusted: Lean checks it.
import Derived.Test.YtjjpiioagoeiiaaG0
import Derived.Test.YtjjpiioagoeiiaaShelf
namespace Go.Proofs.Ytjjpiioagoeiiaa.G
open Go.RowKit Go.Proofs.YtjjpiioagoeiiaaW.PrintWords Go.Proofs.YtjjpiioagoeiiaaW.PrintLast Go.Proofs.YtjjpiioagoeiiaaW.PrintMore
attribute [local go_sem] max2_int min2_int max_two min_two max_three min_three max_four min_four   -- for this text's walks alone
set_option linter.unusedVariables false
set_option linter.unusedSimpArgs false

/-! ### strings_Count: function 49 -/
-- GIVEN strings.Count
-- IMPORT Derived.Test.YtjjpiioagoeiiaaShelf
/- Count of a single byte; of anything else nothing is told. -/
def strings_Count.f (a0 : ByteArray) (a1 : ByteArray) : Option Int := if h : a1.size = 1 then some ((Lib.countByte a0.data.toList (a1[0]'(by omega)) : Nat) : Int) else none
theorem strings_Count.calls (a0 : ByteArray) (a1 : ByteArray) (r : Int) (w : World) (h : strings_Count.f a0 a1 = some r) :
    Calls Try.prog 49 #[.string a0, .string a1] w fun e w' => e = .returned (.int .i64 r) ∧ Drawn0 w w' := by
  unfold strings_Count.f at h
  split at h
  · rename_i h1
    obtain rfl := Option.some.inj h
    obtain ⟨c, rfl⟩ := Lib.one_byte a1 h1
    exact (Try.strings_Count_one a0 c w).mono fun e w' ⟨h1, h2⟩ => ⟨h1, h2 ▸ Drawn0.refl _⟩
  · cases h


end Go.Proofs.Ytjjpiioagoeiiaa.G
