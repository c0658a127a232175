/- What PutPercent answers, of the program and of the reference: safe bytes as they are, '%' and two great digits for the others. -/
import Derived.Test.YtgfaphlpkjikkaaDoorPHex
import Derived.Test.YtgfaphlpkjikkaaDoorPIn
import Derived.Test.YtgfaphlpkjikkaaDoorGspecPutPercent
import Derived.Test.YtgfaphlpkjikkaaDoorGimplPutPercent
namespace Go.Proofs.YtgfaphlpkjikkaaDoor.U
open Go Go.RowKit Go.Proofs.YtgfaphlpkjikkaaDoorW.PrintWords Go.Proofs.YtgfaphlpkjikkaaDoor.G
set_option linter.unusedVariables false
set_option linter.unusedSimpArgs false

def hexD : B := [48, 49, 50, 51, 52, 53, 54, 55, 56, 57, 65, 66, 67, 68, 69, 70]
def safe (c : UInt8) : Bool := decide (97 ≤ c.toNat ∧ c.toNat ≤ 122) || decide (65 ≤ c.toNat ∧ c.toNat ≤ 90) || decide (48 ≤ c.toNat ∧ c.toNat ≤ 57) || c == 46 || c == 95 || c == 45 || c == 126
def pct1 (c : UInt8) : B := if safe c then [c] else [37, at_ hexD (c.toNat / 16), at_ hexD (c.toNat % 16)]
def pct (l : B) : B := l.flatMap pct1
theorem pct_cons (c : UInt8) (l : B) : pct (c :: l) = pct1 c ++ pct l := rfl
theorem pct1_len (c : UInt8) : (pct1 c).length ≤ 3 := by unfold pct1; split <;> simp
theorem pct_len (l : B) : (pct l).length ≤ 3 * l.length := by
  induction l with
  | nil => simp [pct]
  | cons c l ih => have := pct1_len c; rw [pct_cons, List.length_append, List.length_cons]; omega
theorem spec_safe (c : UInt8) : spec_l01Safe.f (c.toNat : Int) = some (safe c) := by
  revert c
  refine all_bytes ?_
  decide +kernel
/-- The program's own question of a byte. -/
theorem impl_safe {α : Type} (c : UInt8) (J : Bool → Option α) : ((impl_isLetter.f (c.toNat : Int)).bind fun t245 => if t245 = true then J true else (impl_isDigit.f (c.toNat : Int)).bind fun t246 => if t246 = true then J true else if (c.toNat : Int) = 46 then J true else if (c.toNat : Int) = 95 then J true else if (c.toNat : Int) = 45 then J true else J ((c.toNat : Int) == 126)) = J (safe c) := by
  have h : ∀ c : UInt8, ∃ a b, impl_isLetter.f (c.toNat : Int) = some a ∧ impl_isDigit.f (c.toNat : Int) = some b ∧ safe c = (a || b || decide ((c.toNat : Int) = 46) || decide ((c.toNat : Int) = 95) || decide ((c.toNat : Int) = 45) || ((c.toNat : Int) == 126)) := by
    intro c
    have ha : impl_isLetter.f (c.toNat : Int) = some (decide (97 ≤ c.toNat ∧ c.toNat ≤ 122) || decide (65 ≤ c.toNat ∧ c.toNat ≤ 90)) := by
      revert c; refine all_bytes ?_; decide +kernel
    have hb : impl_isDigit.f (c.toNat : Int) = some (decide (48 ≤ c.toNat ∧ c.toNat ≤ 57)) := by
      revert c; refine all_bytes ?_; decide +kernel
    refine ⟨_, _, ha, hb, ?_⟩
    revert c; intro c _ _
    revert c; refine all_bytes ?_; decide +kernel
  obtain ⟨a, b, ha, hb, hs⟩ := h c
  rw [ha, hb, hs, Option.bind_some, Option.bind_some]
  cases a <;> cases b <;> simp only [Bool.true_or, Bool.false_or, if_true, if_false, Bool.false_eq_true, Bool.or_true, if_pos] <;> (repeat' split) <;> simp_all

theorem spec_PutPercent_ev (s : ByteArray) (hs : s.size ≤ 1099511627776) : Ev (fun k => spec_PutPercent.f k s) (S (pct (L s))) := by
  have hsz := size_L s
  have key : ∀ (d i : Nat) (acc : B), i + d = (L s).length → acc.length + 3 * d ≤ 4398046511104 → Ev (fun k => spec_PutPercent.l0 k s (I acc) (i : Int)) (S (acc ++ pct ((L s).drop i))) := by
    intro d
    induction d with
    | zero =>
      intro i acc hi ha
      refine Ev.step (f := fun k => some (S acc)) (fun k => by rw [spec_PutPercent.l0, if_neg (by omega), str_I]) (ev_use (Ev.now _) ?_)
      rw [List.drop_of_length_le (by omega)]; simp [pct]
    | succ d ih =>
      intro i acc hi ha
      have hlt : i < (L s).length := by omega
      rw [drop_at (L s) i hlt, pct_cons, ← List.append_assoc]
      have hb : bt s (i : Int) = ((at_ (L s) i).toNat : Int) := bt_nat s i
      have hc := byte_lt (at_ (L s) i)
      have go := ih (i + 1) (acc ++ pct1 (at_ (L s) i)) (by omega) (by have := pct1_len (at_ (L s) i); rw [List.length_append]; omega)
      refine Ev.step (fun k => ?_) go
      rw [spec_PutPercent.l0, if_pos (by omega), if_pos (by omega), hb, spec_safe, Option.bind_some, wa1 i (by omega)]
      unfold pct1
      by_cases h : safe (at_ (L s) i) = true
      · rw [if_pos h, if_pos h, if_pos (by rw [I_length]; omega), I_append]; rfl
      · have h1 : Int.tdiv ((at_ (L s) i).toNat : Int) 16 % 256 = (((at_ (L s) i).toNat / 16 : Nat) : Int) := by
          rw [Int.tdiv_eq_ediv_of_nonneg (by omega)]; omega
        have h2 : Int.tmod ((at_ (L s) i).toNat : Int) 16 = (((at_ (L s) i).toNat % 16 : Nat) : Int) := by
          rw [Int.tmod_eq_emod_of_nonneg (by omega)]; omega
        rw [if_neg h, if_neg h, h1, h2, if_pos (by omega), if_pos (by omega), if_pos (by omega), if_pos (by omega), Option.bind_some, if_pos (by rw [I_length]; simp; omega)]
        have e : I (acc ++ [37, at_ hexD ((at_ (L s) i).toNat / 16), at_ hexD ((at_ (L s) i).toNat % 16)]) = I acc ++ [37, bt (S hexD) (((at_ (L s) i).toNat / 16 : Nat) : Int), bt (S hexD) (((at_ (L s) i).toNat % 16 : Nat) : Int)] := by
          rw [I_append, bt_nat, bt_nat, L_S]; rfl
        rw [e]; rfl
  exact ev_use (key (L s).length 0 [] (by omega) (by simp; omega)) (by simp)
theorem up_hex (c : UInt8) : Lib.toUpperA (hexOf c) = [at_ hexD (c.toNat / 16), at_ hexD (c.toNat % 16)] := by
  revert c; refine all_bytes ?_; decide +kernel
theorem hex_ascii (c : UInt8) : ((hexOf c).all fun x => decide (x.toNat < 128)) = true := by
  revert c; refine all_bytes ?_; decide +kernel
theorem impl_PutPercent_ev (s : ByteArray) (hs : s.size ≤ 1099511627776) : Ev (fun k => impl_PutPercent.f k s) (S (pct (L s))) := by
  have hsz := size_L s
  have key : ∀ (d i : Nat) (acc : B), i + d = (L s).length → acc.length + 3 * d ≤ 4398046511104 → Ev (fun k => impl_PutPercent.l0 k s (S acc) (s.size : Int) (i : Int)) (S (acc ++ pct ((L s).drop i))) := by
    intro d
    induction d with
    | zero =>
      intro i acc hi ha
      refine Ev.step (f := fun k => some (S acc)) (fun k => by rw [impl_PutPercent.l0, if_neg (by omega)]) (ev_use (Ev.now _) ?_)
      rw [List.drop_of_length_le (by omega)]; simp [pct]
    | succ d ih =>
      intro i acc hi ha
      have hlt : i < (L s).length := by omega
      rw [drop_at (L s) i hlt, pct_cons, ← List.append_assoc]
      have hb : bt s (i : Int) = ((at_ (L s) i).toNat : Int) := bt_nat s i
      have go := ih (i + 1) (acc ++ pct1 (at_ (L s) i)) (by omega) (by have := pct1_len (at_ (L s) i); rw [List.length_append]; omega)
      have ex : s.extract ((i : Int)).toNat (((i + 1 : Nat) : Int)).toNat = S [at_ (L s) i] := by
        apply L_inj; rw [L_extract, L_S, Int.toNat_natCast, Int.toNat_natCast, drop_at (L s) i hlt, show i + 1 - i = 1 by omega]; rfl
      refine Ev.step (f := fun k => impl_PutPercent.j1 k s (S acc) (i : Int) (s.size : Int) (i : Int) (safe (at_ (L s) i))) (fun k => ?_) ?_
      · rw [impl_PutPercent.l0, if_pos (by omega), if_pos (by omega), if_pos (by omega), hb]
        exact impl_safe (at_ (L s) i) (fun b => impl_PutPercent.j1 k s (S acc) (i : Int) (s.size : Int) (i : Int) b)
      · unfold pct1 at go ⊢
        by_cases h : safe (at_ (L s) i) = true
        · rw [if_pos h] at go ⊢
          refine Ev.step (fun k => ?_) go
          rw [impl_PutPercent.j1, if_pos h, wa1 i (by omega), if_pos (by omega), if_pos (by omega), if_pos (by omega), ex, if_pos (by rw [size_S, size_S]; simp; omega), S_append]
        · rw [if_neg h] at go ⊢
          have hp := impl_PutHex_ev (S [at_ (L s) i]) (by rw [size_S]; simp)
          rw [L_S] at hp
          have hh : putHex [at_ (L s) i] = hexOf (at_ (L s) i) := by simp [putHex]
          rw [hh] at hp
          have hu : strings_ToUpper.f (S (hexOf (at_ (L s) i))) = some (S [at_ hexD ((at_ (L s) i).toNat / 16), at_ hexD ((at_ (L s) i).toNat % 16)]) := by
            unfold strings_ToUpper.f
            have e : (S (hexOf (at_ (L s) i))).data.toList = hexOf (at_ (L s) i) := L_S _
            rw [e, if_pos ⟨by rw [size_S]; show 2 ≤ _; omega, hex_ascii _⟩, up_hex]; rfl
          refine Ev.step (f := fun k => (impl_PutHex.f k (S [at_ (L s) i])).bind fun t247 => (strings_ToUpper.f t247).bind fun t248 => if 1 + t248.size ≤ 9223372036854775807 then (if (S acc).size + ((⟨#[37]⟩ : ByteArray) ++ t248).size ≤ 9223372036854775807 then impl_PutPercent.l0 k s (S acc ++ ((⟨#[37]⟩ : ByteArray) ++ t248)) (s.size : Int) ((i + 1 : Nat) : Int) else none) else none) (fun k => ?_) ?_
          · rw [impl_PutPercent.j1, if_neg h, wa1 i (by omega), if_pos (by omega), if_pos (by omega), if_pos (by omega), ex]
          · refine Ev.bind hp (ev_const hu ?_)
            refine ev_pos (by rw [size_S]; simp) (ev_pos (by rw [ByteArray.size_append, size_S, size_S, show (⟨#[37]⟩ : ByteArray).size = 1 from rfl]; simp; omega) ?_)
            have e2 : S acc ++ ((⟨#[37]⟩ : ByteArray) ++ S [at_ hexD ((at_ (L s) i).toNat / 16), at_ hexD ((at_ (L s) i).toNat % 16)]) = S (acc ++ [37, at_ hexD ((at_ (L s) i).toNat / 16), at_ hexD ((at_ (L s) i).toNat % 16)]) := by
              apply L_inj; simp [L_append]; rfl
            rw [e2]; exact go
  exact ev_use (key (L s).length 0 [] (by omega) (by simp; omega)) (by simp)
end Go.Proofs.YtgfaphlpkjikkaaDoor.U
