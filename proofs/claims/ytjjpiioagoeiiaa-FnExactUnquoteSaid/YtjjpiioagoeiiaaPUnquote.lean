/- What Unquote answers, of the program and of the reference: they read escapes differently, but agree where the quotes of what was read are the text. -/
import Derived.Test.YtjjpiioagoeiiaaPQuote
import Derived.Test.YtjjpiioagoeiiaaPGetHex
import Derived.Test.YtjjpiioagoeiiaaPIn
import Derived.Test.YtjjpiioagoeiiaaGspecUnquote
import Derived.Test.YtjjpiioagoeiiaaGimplUnquote
namespace Go.Proofs.Ytjjpiioagoeiiaa.U
open Go Go.RowKit Go.Proofs.YtjjpiioagoeiiaaW.PrintWords Go.Proofs.Ytjjpiioagoeiiaa.G
set_option linter.unusedVariables false
set_option linter.unusedSimpArgs false

def more (n : Nat) : Option (B × Nat) → Option (B × Nat)
  | none => none
  | some (t, m) => some (t, m + n)
/-- The program's reading up to the closing quote: the text, and how many bytes it took; strict: the reference's. -/
def scan (strict : Bool) (acc : B) (r : B) : Option (B × Nat) :=
  match r with
  | [] => none
  | c :: r1 =>
    if c = 34 then some (acc, 1)
    else if c = 92 then
      match r1 with
      | [] => none
      | d :: r2 =>
        if d = 110 then more 2 (scan strict (acc ++ [10]) r2)
        else if d = 120 then
          match r2 with
          | a :: b :: r4 => if (getHex [a, b]).2 = true then more 4 (scan strict (acc ++ (getHex [a, b]).1) r4) else none
          | _ => none
        else if strict = true ∧ d ≠ 34 ∧ d ≠ 92 then none
        else more 2 (scan strict (acc ++ [d]) r2)
    else more 1 (scan strict (acc ++ [c]) r1)
termination_by r.length
decreasing_by all_goals simp_wf; try omega

theorem more_none (n : Nat) : more n none = none := rfl
theorem more_some (n : Nat) (t : B) (m : Nat) : more n (some (t, m)) = some (t, m + n) := rfl
theorem more_eq {n : Nat} {o : Option (B × Nat)} {t : B} {m : Nat} (h : more n o = some (t, m)) : ∃ m', o = some (t, m') ∧ m = m' + n := by
  cases o with
  | none => cases h
  | some x => obtain ⟨t', m'⟩ := x; rw [more_some] at h; cases h; exact ⟨m', rfl, rfl⟩

theorem scan_nil (st : Bool) (acc : B) : scan st acc [] = none := by rw [scan.eq_def]
theorem scan_end (st : Bool) (acc r : B) : scan st acc (34 :: r) = some (acc, 1) := by rw [scan.eq_def]; simp
theorem scan_one (st : Bool) (acc r : B) (c : UInt8) (h1 : c ≠ 34) (h2 : c ≠ 92) : scan st acc (c :: r) = more 1 (scan st (acc ++ [c]) r) := by rw [scan.eq_def]; simp [h1, h2]
theorem scan_bs (st : Bool) (acc : B) : scan st acc [92] = none := by rw [scan.eq_def]; simp
theorem scan_n (st : Bool) (acc r : B) : scan st acc (92 :: 110 :: r) = more 2 (scan st (acc ++ [10]) r) := by rw [scan.eq_def]; simp
theorem scan_x (st : Bool) (acc r : B) (a b : UInt8) : scan st acc (92 :: 120 :: a :: b :: r) = if (getHex [a, b]).2 = true then more 4 (scan st (acc ++ (getHex [a, b]).1) r) else none := by
  rw [scan.eq_def]; simp
theorem scan_x0 (st : Bool) (acc : B) : scan st acc [92, 120] = none := by rw [scan.eq_def]; simp
theorem scan_x1 (st : Bool) (acc : B) (a : UInt8) : scan st acc [92, 120, a] = none := by rw [scan.eq_def]; simp
theorem scan_d (st : Bool) (acc r : B) (d : UInt8) (h1 : d ≠ 110) (h2 : d ≠ 120) : scan st acc (92 :: d :: r) = if st = true ∧ d ≠ 34 ∧ d ≠ 92 then none else more 2 (scan st (acc ++ [d]) r) := by
  rw [scan.eq_def]; simp [h1, h2]

theorem getHex_two (a b : UInt8) (h : (getHex [a, b]).2 = true) : ∃ d, (getHex [a, b]).1 = [d] := by
  unfold getHex at h ⊢
  by_cases hp : (pairs hexd [] [a, b]).2 = true
  · rw [if_pos hp] at h ⊢
    rw [pairs] at hp ⊢
    by_cases hc : idx hexd a < 0 ∨ idx hexd b < 0
    · rw [if_pos hc] at hp; cases hp
    · rw [if_neg hc]; exact ⟨_, rfl⟩
  · rw [if_neg hp] at h; cases h

/-- What the reference reads, the program reads so. -/
theorem scan_loose (n : Nat) : ∀ (acc r : B) (x : B × Nat), r.length ≤ n → scan true acc r = some x → scan false acc r = some x := by
  induction n with
  | zero => intro acc r x hr h; obtain rfl : r = [] := List.eq_nil_of_length_eq_zero (by omega); rw [scan_nil] at h; cases h
  | succ n ih =>
    intro acc r x hr h
    have step : ∀ (k : Nat) (acc' r' : B), r'.length ≤ n → more k (scan true acc' r') = some x → more k (scan false acc' r') = some x := by
      intro k acc' r' hr' h'
      obtain ⟨m', e, hm⟩ := more_eq (t := x.1) (m := x.2) h'
      rw [ih acc' r' _ hr' e, more_some, ← hm]
    cases r with
    | nil => rw [scan_nil] at h; cases h
    | cons c r1 =>
      simp only [List.length_cons] at hr
      by_cases h1 : c = 34
      · subst h1; rw [scan_end] at h ⊢; exact h
      · by_cases h2 : c = 92
        · subst h2
          cases r1 with
          | nil => rw [scan_bs] at h; cases h
          | cons d r2 =>
            simp only [List.length_cons] at hr
            by_cases h3 : d = 110
            · subst h3; rw [scan_n] at h ⊢; exact step _ _ _ (by omega) h
            · by_cases h4 : d = 120
              · subst h4
                match r2, hr, h with
                | [], hr, h => rw [scan_x0] at h; cases h
                | [a], hr, h => rw [scan_x1] at h; cases h
                | a :: b :: r4, hr, h =>
                  simp only [List.length_cons] at hr
                  rw [scan_x] at h ⊢
                  split at h
                  · rename_i hx; rw [if_pos hx]; exact step _ _ _ (by omega) h
                  · cases h
              · rw [scan_d _ _ _ _ h3 h4] at h ⊢
                split at h
                · cases h
                · rw [if_neg (by simp)]; exact step _ _ _ (by omega) h
        · rw [scan_one _ _ _ _ h1 h2] at h ⊢; exact step _ _ _ (by omega) h

theorem quote1_first (c : UInt8) (h : c ≠ 92) (x : B) (y : B) (e : quote1 c ++ x = c :: y) : x = y := by
  unfold quote1 at e
  split at e
  · rename_i h1
    simp only [List.cons_append, List.cons.injEq] at e
    exact absurd e.1.symm h
  · split at e
    · simp only [List.cons_append, List.cons.injEq] at e; exact absurd e.1.symm h
    · split at e
      · simp only [List.cons_append, List.cons.injEq] at e; exact absurd e.1.symm h
      · simpa using e

/-- What was read begins with what there was. -/
theorem scan_ext : ∀ (N : Nat) (st : Bool) (a r : B) (x : B) (m : Nat), r.length ≤ N → scan st a r = some (x, m) → ∃ t', x = a ++ t' := by
  intro N
  induction N with
  | zero => intro st a r x m hr h; obtain rfl : r = [] := List.eq_nil_of_length_eq_zero (by omega); rw [scan_nil] at h; cases h
  | succ N ihN =>
    intro st a r x m hr h
    have st1 : ∀ (k : Nat) (p r' : B), r'.length ≤ N → more k (scan st (a ++ p) r') = some (x, m) → ∃ t', x = a ++ t' := by
      intro k p r' hr' h'
      obtain ⟨m', e, _⟩ := more_eq h'
      obtain ⟨t', ht⟩ := ihN st (a ++ p) r' x m' hr' e
      exact ⟨p ++ t', by rw [ht, List.append_assoc]⟩
    cases r with
    | nil => rw [scan_nil] at h; cases h
    | cons c r1 =>
      simp only [List.length_cons] at hr
      by_cases h1 : c = 34
      · subst h1; rw [scan_end] at h; cases h; exact ⟨[], by simp⟩
      · by_cases h2 : c = 92
        · subst h2
          cases r1 with
          | nil => rw [scan_bs] at h; cases h
          | cons d r2 =>
            simp only [List.length_cons] at hr
            by_cases h3 : d = 110
            · subst h3; rw [scan_n] at h; exact st1 _ _ _ (by omega) h
            · by_cases h4 : d = 120
              · subst h4
                match r2, hr, h with
                | [], hr, h => rw [scan_x0] at h; cases h
                | [a'], hr, h => rw [scan_x1] at h; cases h
                | a' :: b :: r4, hr, h =>
                  simp only [List.length_cons] at hr
                  rw [scan_x] at h
                  split at h
                  · exact st1 _ _ _ (by omega) h
                  · cases h
              · rw [scan_d _ _ _ _ h3 h4] at h
                split at h
                · cases h
                · exact st1 _ _ _ (by omega) h
        · rw [scan_one _ _ _ _ h1 h2] at h; exact st1 _ _ _ (by omega) h

/-- What the program reads, the reference reads so, where the quotes of what was read are the text. -/
theorem scan_strict (n : Nat) : ∀ (acc r t : B) (m : Nat), r.length ≤ n → scan false acc r = some (acc ++ t, m) → quoteIn t ++ [34] = r.take m → scan true acc r = some (acc ++ t, m) := by
  induction n with
  | zero => intro acc r t m hr h hq; obtain rfl : r = [] := List.eq_nil_of_length_eq_zero (by omega); rw [scan_nil] at h; cases h
  | succ n ih =>
    intro acc r t m hr h hq
    have grow : ∀ (k : Nat) (p r' : B), r'.length ≤ n → more k (scan false (acc ++ p) r') = some (acc ++ t, m) → (∀ t', t = p ++ t' → ∀ m', m = m' + k → quoteIn t' ++ [34] = r'.take m') → more k (scan true (acc ++ p) r') = some (acc ++ t, m) := by
      intro k p r' hr' h' hq'
      obtain ⟨m', e, hm⟩ := more_eq h'
      obtain ⟨t', ht⟩ := scan_ext _ _ _ _ _ _ (Nat.le_refl _) e
      rw [List.append_assoc] at ht
      have ht' : t = p ++ t' := List.append_cancel_left ht
      rw [ht', ← List.append_assoc] at e
      rw [ih (acc ++ p) r' t' m' hr' e (hq' t' ht' m' hm), more_some, List.append_assoc, ← ht', hm]
    cases r with
    | nil => rw [scan_nil] at h; cases h
    | cons c r1 =>
      simp only [List.length_cons] at hr
      by_cases h1 : c = 34
      · subst h1; rw [scan_end] at h ⊢; exact h
      · by_cases h2 : c = 92
        · subst h2
          cases r1 with
          | nil => rw [scan_bs] at h; cases h
          | cons d r2 =>
            simp only [List.length_cons] at hr
            by_cases h3 : d = 110
            · subst h3; rw [scan_n] at h ⊢
              refine grow _ _ _ (by omega) h fun t' ht m' hm => ?_
              rw [ht, hm, show m' + 2 = (m' + 1) + 1 from rfl, List.take_succ_cons, List.take_succ_cons] at hq
              simpa [quoteIn, quote1] using hq
            · by_cases h4 : d = 120
              · subst h4
                match r2, hr, h, hq with
                | [], hr, h, hq => rw [scan_x0] at h; cases h
                | [a], hr, h, hq => rw [scan_x1] at h; cases h
                | a :: b :: r4, hr, h, hq =>
                  simp only [List.length_cons] at hr
                  rw [scan_x] at h ⊢
                  split at h
                  · rename_i hx
                    rw [if_pos hx]
                    obtain ⟨e, he⟩ := getHex_two a b hx
                    rw [he] at h ⊢
                    refine grow _ _ _ (by omega) h fun t' ht m' hm => ?_
                    rw [ht, hm, show m' + 4 = (((m' + 1) + 1) + 1) + 1 from rfl, List.take_succ_cons, List.take_succ_cons, List.take_succ_cons, List.take_succ_cons] at hq
                    simp only [quoteIn, List.cons_append, List.nil_append, List.flatMap_cons, List.append_assoc] at hq
                    unfold quote1 at hq
                    split at hq
                    · rename_i he2
                      simp only [List.cons_append, List.cons.injEq] at hq
                      rcases he2 with rfl | rfl
                      · exact absurd hq.2.1 (by decide)
                      · exact absurd hq.2.1 (by decide)
                    · split at hq
                      · simp only [List.cons_append, List.cons.injEq] at hq
                        exact absurd hq.2.1 (by decide)
                      · split at hq
                        · simp only [hexOf, List.cons_append, List.nil_append, List.cons.injEq] at hq
                          exact hq.2.2.2.2
                        · rename_i hn1 _ _
                          simp only [List.cons_append, List.cons.injEq] at hq
                          exact absurd (.inr hq.1) hn1
                  · cases h
              · rw [scan_d _ _ _ _ h3 h4, if_neg (by simp)] at h
                by_cases h5 : d = 34 ∨ d = 92
                · rw [scan_d _ _ _ _ h3 h4, if_neg (by rcases h5 with rfl | rfl <;> simp)]
                  refine grow _ _ _ (by omega) h fun t' ht m' hm => ?_
                  rw [ht, hm, show m' + 2 = (m' + 1) + 1 from rfl, List.take_succ_cons, List.take_succ_cons] at hq
                  simpa [quoteIn, quote1, h5] using hq
                · exfalso
                  obtain ⟨m', e, hm⟩ := more_eq h
                  obtain ⟨t', ht⟩ := scan_ext _ _ _ _ _ _ (Nat.le_refl _) e
                  rw [List.append_assoc] at ht
                  have ht' : t = [d] ++ t' := List.append_cancel_left ht
                  rw [ht', hm, show m' + 2 = (m' + 1) + 1 from rfl, List.take_succ_cons, List.take_succ_cons] at hq
                  simp only [quoteIn, List.cons_append, List.nil_append, List.flatMap_cons, List.append_assoc] at hq
                  unfold quote1 at hq
                  rw [if_neg h5] at hq
                  split at hq
                  · rename_i h10
                    simp only [List.cons_append, List.cons.injEq] at hq
                    exact h3 hq.2.1.symm
                  · split at hq
                    · simp only [List.cons_append, List.cons.injEq] at hq
                      exact h4 hq.2.1.symm
                    · simp only [List.cons_append, List.cons.injEq] at hq
                      exact h5 (.inr hq.1)
        · rw [scan_one _ _ _ _ h1 h2] at h ⊢
          refine grow _ _ _ (by omega) h fun t' ht m' hm => ?_
          rw [ht, hm, List.take_succ_cons] at hq
          simp only [quoteIn, List.cons_append, List.nil_append, List.flatMap_cons, List.append_assoc] at hq
          exact quote1_first c h2 _ _ hq

end Go.Proofs.Ytjjpiioagoeiiaa.U
