-- PRINTED by print.py (a twelfth state) out of the translation. Not trusted: Lean checks it.
import Derived.Test.YtbepbfibanmhoaaGreatDoorG0
import Derived.Test.YtbepbfibanmhoaaGreatDoorShelf
namespace Go.Proofs.YtbepbfibanmhoaaGreatDoor.G
open Go.RowKit Go.Proofs.YtbepbfibanmhoaaGreatDoorW.PrintWords Go.Proofs.YtbepbfibanmhoaaGreatDoorW.PrintLast Go.Proofs.YtbepbfibanmhoaaGreatDoorW.PrintMore
attribute [local go_sem] max2_int min2_int max_two min_two max_three min_three max_four min_four   -- for this text's walks alone
attribute [local go_sem high] Go.Proofs.YtbepbfibanmhoaaGreatDoor.G.str_gtr Go.Proofs.YtbepbfibanmhoaaGreatDoor.G.str_leq Go.Proofs.YtbepbfibanmhoaaGreatDoor.G.str_geq
set_option linter.unusedVariables false
set_option linter.unusedSimpArgs false

/-! ### strings_Join: function 88 -/
-- GIVEN strings.Join
-- MAKING yes
-- IMPORT Derived.Test.YtbepbfibanmhoaaGreatDoorShelf
def strings_Join.f (l0 : List ByteArray) (a1 : ByteArray) : Option ByteArray := if l0.length ≤ 140737488355328 ∧ (Lib.join (l0.map (·.data.toList)) a1.data.toList).length ≤ 140737488355328 then some ⟨(Lib.join (l0.map (·.data.toList)) a1.data.toList).toArray⟩ else none
theorem strings_Join.calls (A0 : Option Addr) (c0 : Nat) (l0 : List ByteArray) (a1 : ByteArray) (r : ByteArray) (w : World) (hr0 : Kd.C Kd.string w A0 l0.length l0) (hc0 : l0.length ≤ c0) (h : strings_Join.f l0 a1 = some r) :
  Calls Tryz.prog 88 #[.slice A0 l0.length c0, .string a1] w fun e w' => e = .returned (.string r) ∧ Below w.heap.size w w' := by
 unfold strings_Join.f at h
 by_cases hc : l0.length ≤ 140737488355328 ∧ (Lib.join (l0.map (·.data.toList)) a1.data.toList).length ≤ 140737488355328
 ·rw [if_pos hc] at h
  obtain rfl := Option.some.inj h
  cases l0 with
  | nil => exact (Tryz.strings_Join_none A0 c0 a1 w).mono fun e w' ⟨h1, h2⟩ => ⟨h1, h2 ▸ Below.refl _ _⟩
  | cons x l =>
   obtain ⟨ad, rfl, hcell⟩ := hr0.2.2 (by simp)
   have cell : ∀ (j : Nat) y, (x :: l)[j]? = some y → w.cell? (ad.add (j * 1 + 0)) = some (.string y) := by
    intro j y hy
    obtain ⟨cs, _, hk, hi⟩ := hcell j y hy
    have hk' : cs = [.string y] := hk
    subst hk'
    exact hi 0 _ rfl
   obtain ⟨b, o, sp⟩ := ad
   have hsp : sp = none := Go.Proofs.cell_spot (cell 0 x rfl)
   subst hsp
   have e : ∀ j, (⟨b, o, none⟩ : Addr).add (j * 1 + 0) = ⟨b, o + j, none⟩ := fun j => by unfold Addr.add; simp
   refine (Tryz.strings_Join b o c0 (x :: l) a1 w (fun j y hy => by rw [← e j]; exact cell j y hy) (World.block_lt_of_cell? w ⟨b, o + 0, none⟩ (by rw [← e 0]; exact cell 0 x rfl)) hc.1 hc0 hc.2).mono fun e w' ⟨h1, h2⟩ => ⟨h1, h2⟩
 ·rw [if_neg hc] at h; cases h


end Go.Proofs.YtbepbfibanmhoaaGreatDoor.G
