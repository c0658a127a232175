/- Decimal numerals as lists of bytes: what they spell, and strconv.Atoi at them. No Go in it. -/
import Derived.Test.YtgfaphlpkjikkaaDoorU0
import Derived.Lib.AtoiAll
import Derived.Lib.ItoaNum
namespace Go.Proofs.YtgfaphlpkjikkaaDoor.U
open Go Go.RowKit
set_option linter.unusedVariables false

/-- What digits spell, behind a. -/
def val10 (a : Nat) : B → Nat
  | [] => a
  | c :: l => val10 (a * 10 + (c.toNat - 48)) l
theorem val10_append : ∀ (l m : B) (a : Nat), val10 a (l ++ m) = val10 (val10 a l) m
  | [], m, a => rfl
  | c :: l, m, a => by rw [List.cons_append]; exact val10_append l m _
def dgt (c : UInt8) : Bool := decide (48 ≤ c.toNat ∧ c.toNat ≤ 57)
theorem dgt_is (c : UInt8) : dgt c = true ↔ 48 ≤ c.toNat ∧ c.toNat ≤ 57 := by unfold dgt; exact decide_eq_true_iff
theorem dgt_of (i : Nat) (h : i < 10) : (UInt8.ofNat (48 + i)).toNat = 48 + i := by rw [UInt8.toNat_ofNat']; omega
theorem decDigits_step (u : Nat) (h : ¬ u < 10) : Lib.decDigits u = Lib.decDigits (u / 10) ++ [UInt8.ofNat (48 + u % 10)] := by
  conv => lhs; unfold Lib.decDigits
  rw [dif_neg h]
theorem dec_digits : ∀ (n u : Nat), u < n → (∀ c ∈ Lib.decDigits u, dgt c = true) ∧ val10 0 (Lib.decDigits u) = u := by
  intro n
  induction n with
  | zero => intro u h; omega
  | succ n ih =>
    intro u hu
    by_cases h : u < 10
    · rw [Lib.decDigits_one h]
      refine ⟨fun c hc => ?_, ?_⟩
      · rw [List.mem_singleton] at hc; subst hc; rw [dgt_is, dgt_of u h]; omega
      · show 0 * 10 + ((UInt8.ofNat (48 + u)).toNat - 48) = u
        rw [dgt_of u h]; omega
    · rw [decDigits_step u h]
      obtain ⟨h1, h2⟩ := ih (u / 10) (by omega)
      refine ⟨fun c hc => ?_, ?_⟩
      · rw [List.mem_append, List.mem_singleton] at hc
        rcases hc with hc | rfl
        · exact h1 c hc
        · rw [dgt_is, dgt_of _ (Nat.mod_lt _ (by decide))]; omega
      · rw [val10_append, h2]
        show (u / 10) * 10 + ((UInt8.ofNat (48 + u % 10)).toNat - 48) = u
        rw [dgt_of _ (Nat.mod_lt _ (by decide))]; omega
theorem dec_dgt (u : Nat) : ∀ c ∈ Lib.decDigits u, dgt c = true := (dec_digits (u + 1) u (by omega)).1
theorem dec_val (u : Nat) : val10 0 (Lib.decDigits u) = u := (dec_digits (u + 1) u (by omega)).2
theorem dec_ne (u : Nat) : Lib.decDigits u ≠ [] := by
  intro h
  have := Lib.decDigits_length u
  rw [h] at this
  have := Lib.nDigits_pos u
  simp at *; omega
theorem dec_inj {u v : Nat} (h : Lib.decDigits u = Lib.decDigits v) : u = v := by rw [← dec_val u, ← dec_val v, h]
theorem dec_len_lt (u d : Nat) (h : (Lib.decDigits u).length ≤ d) : u < 10 ^ d := by
  rw [Lib.decDigits_length] at h
  exact Nat.lt_of_lt_of_le (Lib.lt_pow_nDigits u) (Nat.pow_le_pow_right (by decide) h)
theorem dec_len_le : ∀ (d u : Nat), u < 10 ^ (d + 1) → (Lib.decDigits u).length ≤ d + 1 := by
  intro d
  induction d with
  | zero => intro u h; rw [Lib.decDigits_one (by omega)]; simp
  | succ d ih =>
    intro u h
    by_cases h1 : u < 10
    · rw [Lib.decDigits_one h1]; simp
    · rw [decDigits_step u h1, List.length_append]
      have := ih (u / 10) (by rw [Nat.div_lt_iff_lt_mul (by decide)]; rw [Nat.pow_succ] at h; exact h)
      simp; omega
theorem val10_lt : ∀ (l : B) (a : Nat), (∀ c ∈ l, dgt c = true) → val10 a l < (a + 1) * 10 ^ l.length
  | [], a, _ => by rw [List.length_nil, Nat.pow_zero]; show a < (a + 1) * 1; omega
  | c :: l, a, h => by
    have hc := (dgt_is c).1 (h c (by simp))
    have := val10_lt l (a * 10 + (c.toNat - 48)) fun x hx => h x (by simp [hx])
    refine Nat.lt_of_lt_of_le this ?_
    rw [List.length_cons, Nat.pow_succ, Nat.mul_comm (10 ^ l.length) 10, ← Nat.mul_assoc]
    exact Nat.mul_le_mul_right _ (by omega)
theorem val10_ge : ∀ (l : B) (a : Nat), a ≤ val10 a l
  | [], a => Nat.le_refl _
  | c :: l, a => Nat.le_trans (by omega) (val10_ge l (a * 10 + (c.toNat - 48)))

/-- The number of at most nine digits that a text is the numeral of, or -1. -/
def rdec (l : B) : Int := if l.length ≤ 9 ∧ Lib.decDigits (val10 0 l) = l then (val10 0 l : Int) else -1
theorem p9 : (10 : Nat) ^ 9 = 1000000000 := by decide
theorem rdec_dec (u : Nat) (h : u < 1000000000) : rdec (Lib.decDigits u) = u := by
  unfold rdec
  have h9 : (Lib.decDigits u).length ≤ 9 := dec_len_le 8 u (by rw [show 8 + 1 = 9 from rfl, p9]; exact h)
  rw [dec_val, if_pos ⟨h9, rfl⟩]
theorem rdec_some {l : B} (h : ¬ rdec l = -1) : ∃ u : Nat, u < 1000000000 ∧ l = Lib.decDigits u ∧ rdec l = u := by
  unfold rdec at h ⊢
  by_cases hc : l.length ≤ 9 ∧ Lib.decDigits (val10 0 l) = l
  · refine ⟨val10 0 l, ?_, hc.2.symm, by rw [if_pos hc]⟩
    rw [← p9]; exact dec_len_lt _ 9 (by rw [hc.2]; exact hc.1)
  · rw [if_neg hc] at h; exact absurd rfl h
theorem rdec_range (l : B) : -1 ≤ rdec l ∧ rdec l ≤ 999999999 := by
  by_cases h : rdec l = -1
  · omega
  · obtain ⟨u, h1, _, h2⟩ := rdec_some h; omega
theorem parse_digits : ∀ (l : B) (a : Nat), (∀ c ∈ l, dgt c = true) → val10 a l < 1844674407370955161 → Lib.parseUint10 a l = .ok (val10 a l)
  | [], a, _, _ => rfl
  | c :: l, a, h, hv => by
    have hc := (dgt_is c).1 (h c (by simp))
    have hg := val10_ge l (a * 10 + (c.toNat - 48))
    have hv' : val10 (a * 10 + (c.toNat - 48)) l < 1844674407370955161 := hv
    unfold Lib.parseUint10
    rw [if_pos hc, if_neg (by omega), if_neg (by omega)]
    exact parse_digits l _ (fun x hx => h x (by simp [hx])) hv'
theorem atoi_dec (u : Nat) (h : u < 1000000000) : Lib.atoiAll (Lib.decDigits u) = .ok (u : Int) := by
  have hd := dec_dgt u
  have hv := dec_val u
  have hne := dec_ne u
  generalize Lib.decDigits u = l at *
  cases l with
  | nil => exact absurd rfl hne
  | cons c r =>
    have hc := (dgt_is c).1 (hd c (by simp))
    have hp : Lib.parseMag (c :: r) = .ok u := by
      unfold Lib.parseMag
      rw [if_neg (by simp), parse_digits _ _ hd (by omega), hv]
    unfold Lib.atoiAll
    simp only []
    rw [if_neg (by omega), hp]
    simp only []
    rw [if_neg (by omega), if_neg (by omega), if_neg (by omega)]
end Go.Proofs.YtgfaphlpkjikkaaDoor.U
