-- PRINTED by print.py (a twelfth state) out of the translation. Not trusted: Lean checks it.
import Derived.Test.YtjjpiioagoeiiaaG0
import Derived.Test.YtjjpiioagoeiiaaShelf
namespace Go.Proofs.Ytjjpiioagoeiiaa.G
open Go.RowKit Go.Proofs.YtjjpiioagoeiiaaW.PrintWords Go.Proofs.YtjjpiioagoeiiaaW.PrintLast Go.Proofs.YtjjpiioagoeiiaaW.PrintMore
attribute [local go_sem] max2_int min2_int max_two min_two max_three min_three max_four min_four   -- for this text's walks alone
set_option linter.unusedVariables false
set_option linter.unusedSimpArgs false

/-! ### strings_IndexByte: function 39 -/
-- GIVEN strings.IndexByte
-- IMPORT Derived.Test.YtjjpiioagoeiiaaShelf
def strings_IndexByte.f (a0 : ByteArray) (a1 : Int) : Option Int := some (Lib.indexByte a0.data.toList a1.toNat.toUInt8)
theorem strings_IndexByte.calls (a0 : ByteArray) (a1 : Int) (r : Int) (w : World) (h : strings_IndexByte.f a0 a1 = some r) :
    Calls Try.prog 39 #[.string a0, .int .u8 a1] w fun e w' => e = .returned (.int .i64 r) ∧ Drawn0 w w' := by
  obtain rfl := Option.some.inj h
  exact (Try.strings_IndexByte a0 a1 w).mono fun e w' ⟨h1, h2⟩ => ⟨h1, h2 ▸ Drawn0.refl _⟩


end Go.Proofs.Ytjjpiioagoeiiaa.G
