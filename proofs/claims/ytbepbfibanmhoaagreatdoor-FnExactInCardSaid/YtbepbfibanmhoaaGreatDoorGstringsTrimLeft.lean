-- PRINTED by print.py (a twelfth state) out of the translation. Not trusted: Lean checks it.
import Derived.Test.YtbepbfibanmhoaaGreatDoorG0
import Derived.Test.YtbepbfibanmhoaaGreatDoorShelf
namespace Go.Proofs.YtbepbfibanmhoaaGreatDoor.G
open Go.RowKit Go.Proofs.YtbepbfibanmhoaaGreatDoorW.PrintWords Go.Proofs.YtbepbfibanmhoaaGreatDoorW.PrintLast Go.Proofs.YtbepbfibanmhoaaGreatDoorW.PrintMore
attribute [local go_sem] max2_int min2_int max_two min_two max_three min_three max_four min_four   -- for this text's walks alone
attribute [local go_sem high] Go.Proofs.YtbepbfibanmhoaaGreatDoor.G.str_gtr Go.Proofs.YtbepbfibanmhoaaGreatDoor.G.str_leq Go.Proofs.YtbepbfibanmhoaaGreatDoor.G.str_geq
set_option linter.unusedVariables false
set_option linter.unusedSimpArgs false

/-! ### strings_TrimLeft: function 121 -/
-- GIVEN strings.TrimLeft
-- IMPORT Derived.Test.YtbepbfibanmhoaaGreatDoorShelf
/- At a cutset of one ASCII byte; of anything else nothing is told. -/
def strings_TrimLeft.f (a0 : ByteArray) (a1 : ByteArray) : Option ByteArray := if h : a1.size = 1 then (if (a1[0]'(by omega)).toNat < 128 ∧ a0.size ≤ 9223372036854775807 then some ⟨(Lib.trimLeftB a0.data.toList (a1[0]'(by omega))).toArray⟩ else none) else none
theorem strings_TrimLeft.calls (a0 : ByteArray) (a1 : ByteArray) (r : ByteArray) (w : World) (h : strings_TrimLeft.f a0 a1 = some r) :
  Calls Tryz.prog 121 #[.string a0, .string a1] w fun e w' => e = .returned (.string r) ∧ Drawn0 w w' := by
 unfold strings_TrimLeft.f at h
 split at h
 ·rename_i h1
  split at h
  ·rename_i h2
   obtain rfl := Option.some.inj h
   obtain ⟨c, rfl⟩ := Lib.one_byte a1 h1
   exact (Tryz.strings_TrimLeft_one a0 c h2.1 w).mono fun e w' ⟨h1, h2⟩ => ⟨h1, h2 ▸ Drawn0.refl _⟩
  ·cases h
 ·cases h


end Go.Proofs.YtbepbfibanmhoaaGreatDoor.G
