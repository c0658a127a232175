/- A part of the proof that the law FnExactOrder answers true at every input that its row speaks of. Conditions: the row's own. -/
import Derived.Test.YtieohddolkeegaaGreatDoorProg
import Derived.Laws.Strings
import Derived.Tactics
import Derived.KernelRfl
namespace Go.Proofs.YtieohddolkeegaaGreatDoor.G
open Go
theorem str_tot : ∀ a b : List UInt8, (!(Op.bytesLess a b || a == b)) = Op.bytesLess b a
  | [], [] => rfl
  | _ :: _, [] => rfl
  | [], _ :: _ => rfl
  | x :: xs, y :: ys => by
    have ih := str_tot xs ys
    show (!((decide (x < y) || (x == y && Op.bytesLess xs ys)) || (x == y && xs == ys))) = (decide (y < x) || (y == x && Op.bytesLess ys xs))
    rw [← ih]
    by_cases h : x = y
    · subst h
      have hl : ¬ x < x := by rw [UInt8.lt_iff_toNat_lt]; omega
      simp [hl]
    · have h1 : (x == y) = false := by simpa using h
      have h2 : (y == x) = false := by simpa using fun e => h e.symm
      rw [h1, h2]
      by_cases hl : x < y
      · have : ¬ y < x := by rw [UInt8.lt_iff_toNat_lt] at *; omega
        simp [hl, this]
      · have : y < x := by
          rw [UInt8.lt_iff_toNat_lt] at *
          have : x.toNat ≠ y.toNat := fun e => h (UInt8.toNat_inj.1 e)
          omega
        simp [hl, this]
theorem str_tot' (a b : List UInt8) : (Op.bytesLess a b || a == b) = !(Op.bytesLess b a) := by
  have h := str_tot a b
  rw [← h]; simp
theorem str_gtr (t : TypeId) (a b : ByteArray) : binOp .gtr t (.string a) (.string b) = pure (.bool (Op.bytesLess b.toList a.toList)) := by
  have h := str_tot a.toList b.toList
  rw [← h]; simp [binOp, Op.stringOp]
theorem str_leq (t : TypeId) (a b : ByteArray) : binOp .leq t (.string a) (.string b) = pure (.bool !(Op.bytesLess b.toList a.toList)) := by
  have h := str_tot' a.toList b.toList
  rw [← h]; simp [binOp, Op.stringOp]
theorem str_geq (t : TypeId) (a b : ByteArray) : binOp .geq t (.string a) (.string b) = pure (.bool !(Op.bytesLess a.toList b.toList)) := by simp [binOp, Op.stringOp]
end Go.Proofs.YtieohddolkeegaaGreatDoor.G

