/- What Unquote answers, of the program and of the reference: both come to one answer. -/
import Derived.Test.YtjjpiioagoeiiaaPUnquote
namespace Go.Proofs.Ytjjpiioagoeiiaa.U
open Go Go.RowKit Go.Proofs.YtjjpiioagoeiiaaW.PrintWords Go.Proofs.Ytjjpiioagoeiiaa.G
set_option linter.unusedVariables false
set_option linter.unusedSimpArgs false

def resU (l : B) (i0 : Nat) (o : Option (B × Nat)) (j : Nat) : ByteArray × Int :=
  match o with
  | none => (S [], -1)
  | some (t, m) => if quote t = (l.drop i0).take (j + m - i0) then (S t, ((j + m : Nat) : Int)) else (S [], -1)
theorem res_more (l : B) (i0 n : Nat) (o : Option (B × Nat)) (j : Nat) : resU l i0 (more n o) j = resU l i0 o (j + n) := by
  cases o with
  | none => rfl
  | some x => obtain ⟨t, m⟩ := x; simp only [more, resU]; rw [show j + (m + n) = j + n + m by omega]
theorem res_none (l : B) (i0 j : Nat) : resU l i0 none j = (S [], -1) := rfl
theorem extract_drop (s : ByteArray) (a b : Nat) : (s.extract a b).toList = ((L s).drop a).take (b - a) := by rw [toList_L, L_extract]
theorem two_extract (s : ByteArray) (i : Nat) (h : i + 1 < (L s).length) : s.extract i (i + 2) = S [at_ (L s) i, at_ (L s) (i + 1)] := L_inj (by
  rw [L_extract, L_S, drop_at _ _ (by omega : i < (L s).length), drop_at _ _ h, Nat.add_sub_cancel_left]; rfl)

theorem impl_Unquote_loop (s : ByteArray) (hs : s.size ≤ 1099511627776) (i0 : Nat) (n : Nat) : ∀ (j : Nat) (acc : B), (L s).length - j ≤ n → i0 < j → acc.length ≤ j →
    j ≤ (L s).length → Ev (fun k => impl_Unquote.l0 k s (i0 : Int) (I acc) (j : Int)) (resU (L s) i0 (scan false acc ((L s).drop j)) j) := by
  have hsz := size_L s
  induction n with
  | zero =>
    intro j acc hn hij ha hj
    rw [List.drop_of_length_le (by omega), scan_nil]
    exact Ev.step (f := fun k => some (S [], -1)) (fun k => by rw [impl_Unquote.l0, if_neg (by omega)]; rfl) (Ev.now _)
  | succ n ih =>
    intro j acc hn hij ha hj
    by_cases hlt : j < (L s).length
    · have hz : (j : Int) < (s.size : Int) := by omega
      rw [drop_at _ _ hlt]
      by_cases h1 : at_ (L s) j = 34
      · rw [h1, scan_end]
        refine Ev.step (f := fun k => _) (fun k => by rw [impl_Unquote.l0, if_pos hz, if_pos (by omega), bt_nat, h1, if_pos (by decide), wa1 j (by omega), str_I]) ?_
        have hq := impl_Quote_ev (S acc) (by rw [size_S]; omega)
        rw [L_S] at hq
        refine Ev.bind hq (ev_pos (by omega) (ev_pos (by omega) (ev_pos (by omega) ?_)))
        simp only [resU]
        rw [Int.toNat_natCast, Int.toNat_natCast, toList_S, extract_drop]
        by_cases he : quote acc = ((L s).drop i0).take (j + 1 - i0)
        · exact ev_pos he (ev_use (Ev.now _) (by rw [if_pos he]))
        · exact ev_neg he (ev_use (Ev.now _) (by rw [if_neg he]; rfl))
      · by_cases h2 : at_ (L s) j = 92
        · rw [h2]
          by_cases hl2 : j + 1 < (L s).length
          · rw [drop_at _ _ hl2]
            have hz2 : ((j + 1 : Nat) : Int) < (s.size : Int) := by omega
            refine Ev.step (f := fun k => _) (fun k => by rw [impl_Unquote.l0, if_pos hz, if_pos (by omega), bt_nat, h2, if_neg (by decide), if_pos (by decide), wa1 j (by omega), if_neg (by omega), if_pos (by omega), if_pos hz2, bt_nat]) ?_
            by_cases h3 : at_ (L s) (j + 1) = 110
            · rw [h3, scan_n, res_more]
              refine ev_pos (by decide) (ev_pos (by simp; omega) ?_)
              rw [wa1 (j + 1) (by omega), show ([10] : List Int) = I [10] from rfl, ← I_append]
              exact ih (j + 2) (acc ++ [10]) (by omega) (by omega) (by simp; omega) (by omega)
            · refine ev_neg (fun e => h3 ((byte_is _ 110 110 (by decide)).1 e)) ?_
              by_cases h4 : at_ (L s) (j + 1) = 120
              · refine ev_pos ((byte_is _ 120 120 (by decide)).2 h4) ?_
                rw [h4]
                by_cases hl4 : j + 3 < (L s).length
                · rw [drop_at _ _ (by omega : j + 2 < (L s).length), drop_at _ _ (by omega : j + 3 < (L s).length), scan_x]
                  have ho : s.extract (j + 2) (j + 4) = S [at_ (L s) (j + 2), at_ (L s) (j + 3)] := two_extract s (j + 2) (by omega)
                  have hx := impl_GetHex_ev (S [at_ (L s) (j + 2), at_ (L s) (j + 3)]) (by rw [size_S]; simp)
                  rw [L_S] at hx
                  refine ev_neg (by rw [wa4 j (by omega)]; omega) ?_
                  rw [wa2 j (by omega), wa4 j (by omega), Int.toNat_natCast, Int.toNat_natCast, ho]
                  refine ev_pos (by omega) (ev_pos (by omega) (ev_pos (by omega) (Ev.bind hx ?_)))
                  dsimp only
                  by_cases hk : (getHex [at_ (L s) (j + 2), at_ (L s) (j + 3)]).2 = true
                  · obtain ⟨d, hd⟩ := getHex_two _ _ hk
                    rw [if_pos hk, res_more, hd]
                    refine ev_pos hk (ev_pos (by rw [I_length, size_S]; simp; omega) ?_)
                    rw [wa3 j (by omega), wa1 (j + 3) (by omega), bytesOf_I, L_S, ← I_append]
                    exact ih (j + 4) (acc ++ [d]) (by omega) (by omega) (by simp; omega) (by omega)
                  · rw [if_neg hk, res_none]
                    exact ev_neg hk (Ev.now _)
                · have hn' : scan false acc (92 :: 120 :: (L s).drop (j + 1 + 1)) = none := by
                    by_cases hl3 : j + 2 < (L s).length
                    · rw [drop_at _ _ hl3, show j + 2 + 1 = (L s).length by omega, List.drop_length, scan_x1]
                    · rw [show j + 1 + 1 = (L s).length by omega, List.drop_length, scan_x0]
                  rw [hn', res_none]
                  exact ev_pos (by rw [wa4 j (by omega)]; omega) (Ev.now _)
              · refine ev_neg (fun e => h4 ((byte_is _ 120 120 (by decide)).1 e)) (ev_pos (by simp; omega) ?_)
                rw [scan_d _ _ _ _ h3 h4, if_neg (by simp), res_more, wa1 (j + 1) (by omega), show [((at_ (L s) (j + 1)).toNat : Int)] = I [at_ (L s) (j + 1)] from rfl, ← I_append]
                exact ih (j + 2) _ (by omega) (by omega) (by simp; omega) (by omega)
          · have he : j + 1 = (L s).length := by omega
            rw [he, List.drop_length, scan_bs, res_none]
            refine Ev.step (f := fun k => some (S [], -1)) (fun k => by rw [impl_Unquote.l0, if_pos hz, if_pos (by omega), bt_nat, h2, if_neg (by decide), if_pos (by decide), wa1 j (by omega), if_pos (by omega)]; rfl) (Ev.now _)
        · rw [scan_one _ _ _ _ h1 h2, res_more]
          refine Ev.step (f := fun k => impl_Unquote.l0 k s (i0 : Int) (I (acc ++ [at_ (L s) j])) ((j + 1 : Nat) : Int)) (fun k => ?_) (ih (j + 1) _ (by omega) (by omega) (by simp; omega) (by omega))
          rw [impl_Unquote.l0, if_pos hz, if_pos (by omega), bt_nat, if_neg (fun e => h1 ((byte_is _ 34 34 (by decide)).1 e)), if_neg (fun e => h2 ((byte_is _ 92 92 (by decide)).1 e)), if_pos (by simp; omega), wa1 j (by omega), show [((at_ (L s) j).toNat : Int)] = I [at_ (L s) j] from rfl, ← I_append]
    · rw [List.drop_of_length_le (by omega), scan_nil]
      exact Ev.step (f := fun k => some (S [], -1)) (fun k => by rw [impl_Unquote.l0, if_neg (by omega)]; rfl) (Ev.now _)

/-- What stands behind a backslash, and the place behind it. -/
def escape (l : B) (p : Nat) : B × Int :=
  if p < l.length then
    (if at_ l p = 110 then ([10], (p : Int) + 1)
     else if at_ l p = 120 ∧ p + 3 ≤ l.length then (if (getHex [at_ l (p + 1), at_ l (p + 2)]).2 = true then ((getHex [at_ l (p + 1), at_ l (p + 2)]).1, (p : Int) + 3) else ([], -1))
     else if at_ l p = 34 ∨ at_ l p = 92 then ([at_ l p], (p : Int) + 1) else ([], -1))
  else ([], -1)
theorem spec_l01Escape_ev (s : ByteArray) (hs : s.size ≤ 1099511627776) (p : Nat) (hp : p ≤ (L s).length) : Ev (fun k => spec_l01Escape.f k s (p : Int)) (S (escape (L s) p).1, (escape (L s) p).2) := by
  have hsz := size_L s
  unfold spec_l01Escape.f escape
  by_cases hlt : p < (L s).length
  · rw [if_pos hlt]
    refine ev_neg (by omega) (ev_pos (by omega) (ev_pos (by omega) ?_))
    rw [bt_nat]
    by_cases h1 : at_ (L s) p = 110
    · rw [if_pos h1]
      exact ev_pos ((byte_is _ 110 110 (by decide)).2 h1) (ev_use (Ev.now _) (by rw [wa1 p (by omega)]; rfl))
    · rw [if_neg h1]
      refine ev_neg (fun e => h1 ((byte_is _ 110 110 (by decide)).1 e)) ?_
      have hf : ∀ (_ : ¬ (at_ (L s) p = 120 ∧ p + 3 ≤ (L s).length)), Ev (fun k => spec_l01Escape.j0 k s (p : Int) false) (S (if at_ (L s) p = 34 ∨ at_ (L s) p = 92 then ([at_ (L s) p], (p : Int) + 1) else ([], -1)).1, (if at_ (L s) p = 34 ∨ at_ (L s) p = 92 then ([at_ (L s) p], (p : Int) + 1) else ([], -1)).2) := by
        intro _
        have hex := one_extract s p hlt
        refine Ev.step (f := fun k => _) (fun k => by rw [spec_l01Escape.j0, if_neg (by decide), if_pos (by omega), if_pos (by omega), bt_nat, wa1 p (by omega), Int.toNat_natCast, Int.toNat_natCast, hex]) ?_
        by_cases h3 : at_ (L s) p = 34
        · refine ev_pos ((byte_is _ 34 34 (by decide)).2 h3) (ev_pos (by omega) (ev_pos (by omega) (ev_use (Ev.now _) ?_)))
          rw [if_pos (Or.inl h3)]; rfl
        · refine ev_neg (fun e => h3 ((byte_is _ 34 34 (by decide)).1 e)) ?_
          by_cases h4 : at_ (L s) p = 92
          · refine ev_pos ((byte_is _ 92 92 (by decide)).2 h4) (ev_pos (by omega) (ev_pos (by omega) (ev_use (Ev.now _) ?_)))
            rw [if_pos (Or.inr h4)]; rfl
          · refine ev_neg (fun e => h4 ((byte_is _ 92 92 (by decide)).1 e)) (ev_use (Ev.now _) ?_)
            rw [if_neg (fun e => e.elim h3 h4)]; rfl
      by_cases h2 : at_ (L s) p = 120
      · refine ev_pos ((byte_is _ 120 120 (by decide)).2 h2) ?_
        by_cases h3 : p + 3 ≤ (L s).length
        · rw [if_pos ⟨h2, h3⟩]
          have ho : s.extract (p + 1) (p + 3) = S [at_ (L s) (p + 1), at_ (L s) (p + 2)] := two_extract s (p + 1) (by omega)
          have hx := spec_GetHex_ev (S [at_ (L s) (p + 1), at_ (L s) (p + 2)]) (by rw [size_S]; simp)
          rw [L_S] at hx
          have hd : decide (wrap64 ((p : Int) + 3) ≤ (s.size : Int)) = true := by rw [wa3 p (by omega)]; exact decide_eq_true (by omega)
          rw [hd]
          refine Ev.step (f := fun k => _) (fun k => by rw [spec_l01Escape.j0, if_pos rfl, wa1 p (by omega), wa3 p (by omega), Int.toNat_natCast, Int.toNat_natCast, ho]) ?_
          refine ev_pos (by omega) (ev_pos (by omega) (ev_pos (by omega) (Ev.bind hx ?_)))
          dsimp only
          by_cases hk : (getHex [at_ (L s) (p + 1), at_ (L s) (p + 2)]).2 = true
          · refine ev_pos hk (ev_use (Ev.now _) ?_)
            rw [if_pos hk]; rfl
          · refine ev_neg hk (ev_use (Ev.now _) ?_)
            rw [if_neg hk]; rfl
        · have hd : decide (wrap64 ((p : Int) + 3) ≤ (s.size : Int)) = false := by rw [wa3 p (by omega)]; exact decide_eq_false (by omega)
          rw [hd, if_neg (by simp [h3])]
          exact hf (by simp [h3])
      · rw [if_neg (by simp [h2])]
        exact ev_neg (fun e => h2 ((byte_is _ 120 120 (by decide)).1 e)) (hf (by simp [h2]))
  · rw [if_neg hlt]
    exact ev_pos (by omega) (Ev.now _)

theorem spec_Unquote_loop (s : ByteArray) (hs : s.size ≤ 1099511627776) (i0 : Nat) (n : Nat) : ∀ (j : Nat) (acc : B), (L s).length - j ≤ n → i0 < j → acc.length ≤ j →
    j ≤ (L s).length → Ev (fun k => spec_Unquote.l0 k s (i0 : Int) (S acc) (j : Int)) (resU (L s) i0 (scan true acc ((L s).drop j)) j) := by
  have hsz := size_L s
  have fin : ∀ (j : Nat) (acc : B), ¬ j < (L s).length → Ev (fun k => spec_Unquote.l0 k s (i0 : Int) (S acc) (j : Int)) (resU (L s) i0 (scan true acc ((L s).drop j)) j) := by
    intro j acc h
    rw [List.drop_of_length_le (by omega), scan_nil]
    refine Ev.step (f := fun k => spec_Unquote.j2 k s (i0 : Int) (S acc) (j : Int) false) (fun k => by rw [spec_Unquote.l0, if_neg (by omega)]) ?_
    exact Ev.step (f := fun k => some (S [], -1)) (fun k => by rw [spec_Unquote.j2, if_neg (by decide), if_pos (by omega)]; rfl) (Ev.now _)
  induction n with
  | zero =>
    intro j acc hn hij ha hj
    exact fin j acc (by omega)
  | succ n ih =>
    intro j acc hn hij ha hj
    by_cases hlt : j < (L s).length
    · have hz : (j : Int) < (s.size : Int) := by omega
      rw [drop_at _ _ hlt]
      refine Ev.step (f := fun k => spec_Unquote.j2 k s (i0 : Int) (S acc) (j : Int) (bt s (j : Int) != 34)) (fun k => by rw [spec_Unquote.l0, if_pos hz, if_pos (by omega)]) ?_
      by_cases h1 : at_ (L s) j = 34
      · have hb : (bt s (j : Int) != 34) = false := by rw [bt_nat, h1]; decide
        rw [hb, h1, scan_end]
        refine Ev.step (f := fun k => _) (fun k => by rw [spec_Unquote.j2, if_neg (by decide), if_neg (by omega), wa1 j (by omega)]) ?_
        have hq := spec_Quote_ev (S acc) (by rw [size_S]; omega)
        rw [L_S] at hq
        refine Ev.bind hq (ev_pos (by omega) (ev_pos (by omega) (ev_pos (by omega) ?_)))
        simp only [resU]
        rw [Int.toNat_natCast, Int.toNat_natCast, toList_S, extract_drop]
        by_cases he : quote acc = ((L s).drop i0).take (j + 1 - i0)
        · exact ev_pos he (ev_use (Ev.now _) (by rw [if_pos he]))
        · exact ev_neg he (ev_use (Ev.now _) (by rw [if_neg he]; rfl))
      · have hb : (bt s (j : Int) != 34) = true := by rw [bt_nat, bne_iff_ne]; exact fun e => h1 ((byte_is _ 34 34 (by decide)).1 e)
        have hex := one_extract s j hlt
        rw [hb]
        refine Ev.step (f := fun k => _) (fun k => by rw [spec_Unquote.j2, if_pos rfl, if_pos (by omega), wa1 j (by omega), if_pos (by omega), if_pos (by omega), if_pos hz, bt_nat, Int.toNat_natCast, Int.toNat_natCast, hex]) ?_
        by_cases h2 : at_ (L s) j = 92
        · refine ev_pos ((byte_is _ 92 92 (by decide)).2 h2) (Ev.bind (spec_l01Escape_ev s hs (j + 1) (by omega)) ?_)
          dsimp only
          rw [h2]
          have bad : Ev (fun k => if (-1 : Int) < 0 then some ((⟨#[]⟩ : ByteArray), (-1 : Int)) else if (S acc).size + (S []).size ≤ 9223372036854775807 then spec_Unquote.l0 k s (i0 : Int) (S acc ++ S []) (-1) else none) (S [], -1) := ev_pos (by decide) (Ev.now _)
          unfold escape
          by_cases hl2 : j + 1 < (L s).length
          · rw [if_pos hl2, drop_at _ _ hl2]
            by_cases h3 : at_ (L s) (j + 1) = 110
            · rw [if_pos h3, h3, scan_n, res_more]
              refine ev_neg (by omega) (ev_pos (by rw [size_S, size_S]; simp; omega) ?_)
              rw [S_append, show ((j + 1 : Nat) : Int) + 1 = ((j + 2 : Nat) : Int) by omega]
              exact ih (j + 2) _ (by omega) (by omega) (by simp; omega) (by omega)
            · rw [if_neg h3]
              by_cases h4 : at_ (L s) (j + 1) = 120
              · rw [h4]
                by_cases hl4 : j + 3 < (L s).length
                · rw [drop_at _ _ (by omega : j + 2 < (L s).length), drop_at _ _ (by omega : j + 3 < (L s).length), scan_x, if_pos ⟨rfl, by omega⟩]
                  by_cases hk : (getHex [at_ (L s) (j + 2), at_ (L s) (j + 3)]).2 = true
                  · obtain ⟨d, hd⟩ := getHex_two _ _ hk
                    rw [if_pos hk, if_pos hk, res_more]
                    dsimp only
                    rw [hd]
                    refine ev_neg (by omega) (ev_pos (by rw [size_S, size_S]; simp; omega) ?_)
                    rw [S_append, show ((j + 1 : Nat) : Int) + 3 = ((j + 4 : Nat) : Int) by omega]
                    exact ih (j + 4) _ (by omega) (by omega) (by simp; omega) (by omega)
                  · rw [if_neg hk, if_neg hk, res_none]; exact bad
                · have hn' : scan true acc (92 :: 120 :: (L s).drop (j + 1 + 1)) = none := by
                    by_cases hl3 : j + 2 < (L s).length
                    · rw [drop_at _ _ hl3, show j + 2 + 1 = (L s).length by omega, List.drop_length, scan_x1]
                    · rw [show j + 1 + 1 = (L s).length by omega, List.drop_length, scan_x0]
                  rw [hn', res_none, if_neg (by omega), if_neg (by decide)]
                  exact bad
              · rw [if_neg (by simp [h4])]
                rw [scan_d _ _ _ _ h3 h4]
                by_cases h5 : at_ (L s) (j + 1) = 34 ∨ at_ (L s) (j + 1) = 92
                · rw [if_pos h5, if_neg (by rcases h5 with h5 | h5 <;> simp [h5]), res_more]
                  refine ev_neg (by omega) (ev_pos (by rw [size_S, size_S]; simp; omega) ?_)
                  rw [S_append, show ((j + 1 : Nat) : Int) + 1 = ((j + 2 : Nat) : Int) by omega]
                  exact ih (j + 2) _ (by omega) (by omega) (by simp; omega) (by omega)
                · rw [if_neg h5, if_pos ⟨rfl, fun e => h5 (.inl e), fun e => h5 (.inr e)⟩, res_none]; exact bad
          · rw [if_neg hl2, show j + 1 = (L s).length by omega, List.drop_length, scan_bs, res_none]; exact bad
        · refine ev_neg (fun e => h2 ((byte_is _ 92 92 (by decide)).1 e)) (ev_neg (by omega) (ev_pos (by rw [size_S, size_S]; simp; omega) ?_))
          rw [scan_one _ _ _ _ h1 h2, res_more, S_append]
          exact ih (j + 1) _ (by omega) (by omega) (by simp; omega) (by omega)
    · exact fin j acc hlt

def unquote (l : B) (i : Int) : ByteArray × Int := if 0 ≤ i ∧ i < l.length ∧ at_ l i.toNat = 34 then resU l i.toNat (scan false [] (l.drop (i.toNat + 1))) (i.toNat + 1) else (S [], -1)
theorem res_strict (l : B) (i : Nat) (hi : i < l.length) (h : at_ l i = 34) : resU l i (scan true [] (l.drop (i + 1))) (i + 1) = resU l i (scan false [] (l.drop (i + 1))) (i + 1) := by
  cases hf : scan false [] (l.drop (i + 1)) with
  | none =>
    cases ht : scan true [] (l.drop (i + 1)) with
    | none => rfl
    | some x => rw [scan_loose _ _ _ _ (Nat.le_refl _) ht] at hf; cases hf
  | some x =>
    obtain ⟨t, m⟩ := x
    have hc : (quote t = (l.drop i).take (i + 1 + m - i)) ↔ quoteIn t ++ [34] = (l.drop (i + 1)).take m := by
      rw [drop_at l i hi, h, show i + 1 + m - i = m + 1 by omega, List.take_succ_cons, quote]
      simp
    by_cases he : quoteIn t ++ [34] = (l.drop (i + 1)).take m
    · rw [show scan true [] (l.drop (i + 1)) = some (t, m) from scan_strict _ [] _ t m (Nat.le_refl _) hf he]
    · cases ht : scan true [] (l.drop (i + 1)) with
      | none => simp only [resU]; rw [if_neg (fun e => he (hc.1 e))]
      | some x =>
        obtain ⟨t', m'⟩ := x
        have := scan_loose _ _ _ _ (Nat.le_refl _) ht
        rw [hf] at this
        cases this; rfl

theorem impl_Unquote_ev (s : ByteArray) (i : Int) (hs : s.size ≤ 1099511627776) : Ev (fun k => impl_Unquote.f k s i) (unquote (L s) i) := by
  have hsz := size_L s
  unfold impl_Unquote.f unquote
  rw [impl_within_eq, w64 (by omega) (by omega)]
  refine ev_some ?_
  have bad : Ev (fun k => impl_Unquote.j0 k s i true) (S [], -1) := Ev.step (f := fun k => some (S [], -1)) (fun k => by rw [impl_Unquote.j0, if_pos rfl]; rfl) (Ev.now _)
  by_cases h : 0 ≤ i ∧ i ≤ (s.size : Int) - 1
  · obtain ⟨n, rfl⟩ := Int.eq_ofNat_of_zero_le h.1
    refine ev_pos (by simpa using h) (ev_pos (by omega) (ev_pos (by omega) ?_))
    rw [bt_nat, Int.toNat_natCast]
    by_cases h1 : at_ (L s) n = 34
    · have hb : (((at_ (L s) n).toNat : Int) != 34) = false := by rw [h1]; decide
      rw [hb, if_pos ⟨by omega, by omega, h1⟩]
      refine Ev.step (f := fun k => impl_Unquote.l0 k s (n : Int) (I []) ((n + 1 : Nat) : Int)) (fun k => by rw [impl_Unquote.j0, if_neg (by decide), inc n (by omega)]; rfl) ?_
      exact impl_Unquote_loop s hs n _ (n + 1) [] (Nat.le_refl _) (by omega) (by simp) (by omega)
    · have hb : (((at_ (L s) n).toNat : Int) != 34) = true := by rw [bne_iff_ne]; exact fun e => h1 ((byte_is _ 34 34 (by decide)).1 e)
      rw [hb, if_neg (fun e => h1 e.2.2)]
      exact bad
  · refine ev_neg (by simpa using h) ?_
    rw [if_neg (by omega)]
    exact bad

theorem spec_Unquote_ev (s : ByteArray) (i : Int) (hs : s.size ≤ 1099511627776) : Ev (fun k => spec_Unquote.f k s i) (unquote (L s) i) := by
  have hsz := size_L s
  unfold spec_Unquote.f unquote
  have bad : Ev (fun k => spec_Unquote.j0 k s i true) (S [], -1) := Ev.step (f := fun k => some (S [], -1)) (fun k => by rw [spec_Unquote.j0, if_pos rfl]; rfl) (Ev.now _)
  by_cases h0 : i < 0
  · refine ev_pos h0 ?_
    rw [if_neg (by omega)]; exact bad
  · refine ev_neg h0 ?_
    by_cases h1 : i ≥ (s.size : Int)
    · refine ev_pos h1 ?_
      rw [if_neg (by omega)]; exact bad
    · obtain ⟨n, rfl⟩ := Int.eq_ofNat_of_zero_le (by omega : 0 ≤ i)
      refine ev_neg h1 (ev_pos (by omega) (ev_pos (by omega) ?_))
      rw [bt_nat, Int.toNat_natCast]
      by_cases h2 : at_ (L s) n = 34
      · have hb : (((at_ (L s) n).toNat : Int) != 34) = false := by rw [h2]; decide
        rw [hb, if_pos ⟨by omega, by omega, h2⟩, ← res_strict _ _ (by omega) h2]
        refine Ev.step (f := fun k => spec_Unquote.l0 k s (n : Int) (S []) ((n + 1 : Nat) : Int)) (fun k => by rw [spec_Unquote.j0, if_neg (by decide), inc n (by omega)]; rfl) ?_
        exact spec_Unquote_loop s hs n _ (n + 1) [] (Nat.le_refl _) (by omega) (by simp) (by omega)
      · have hb : (((at_ (L s) n).toNat : Int) != 34) = true := by rw [bne_iff_ne]; exact fun e => h2 ((byte_is _ 34 34 (by decide)).1 e)
        rw [hb, if_neg (fun e => h2 e.2.2)]
        exact bad

end Go.Proofs.Ytjjpiioagoeiiaa.U
