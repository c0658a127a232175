/- A part of the proof that the law FnTexts answers true at every input that its row speaks of. Conditions: the row's own. -/
import Derived.Test.YtbfbomcfmgdpkaaGreatDoorMFnTexts7
import Derived.Test.YtbfbomcfmgdpkaaGreatDoorKFnTexts0
import Derived.Lib.SplitLaws
import Derived.Lib.AtoiAll
import Derived.Lib.ItoaNum
section
namespace Go.Proofs.YtbfbomcfmgdpkaaGreatDoor.U
open Go Go.RowKit Go.Proofs.YtbfbomcfmgdpkaaGreatDoorW.PrintWords Go.Proofs.YtbfbomcfmgdpkaaGreatDoor.G
set_option linter.unusedVariables false
set_option linter.unusedSimpArgs false
def resU (l : B) (i0 : Nat) (o : Option (B × Nat)) (j : Nat) : ByteArray × Int :=
  match o with
  | none => (S [], -1)
  | some (t, m) => if quote t = (l.drop i0).take (j + m - i0) then (S t, ((j + m : Nat) : Int)) else (S [], -1)
theorem res_more (l : B) (i0 n : Nat) (o : Option (B × Nat)) (j : Nat) : resU l i0 (more n o) j = resU l i0 o (j + n) := by
  cases o with
  | none => rfl
  | some x => obtain ⟨t, m⟩ := x; simp only [more, resU]; rw [show j + (m + n) = j + n + m by omega]
theorem res_none (l : B) (i0 j : Nat) : resU l i0 none j = (S [], -1) := rfl
theorem extract_drop (s : ByteArray) (a b : Nat) : (s.extract a b).toList = ((L s).drop a).take (b - a) := by rw [toList_L, L_extract]
theorem two_extract (s : ByteArray) (i : Nat) (h : i + 1 < (L s).length) : s.extract i (i + 2) = S [at_ (L s) i, at_ (L s) (i + 1)] := L_inj (by
  rw [L_extract, L_S, drop_at _ _ (by omega : i < (L s).length), drop_at _ _ h, Nat.add_sub_cancel_left]; rfl)
theorem impl_Unquote_loop (s : ByteArray) (hs : s.size ≤ 1099511627776) (i0 : Nat) (n : Nat) : ∀ (j : Nat) (acc : B), (L s).length - j ≤ n → i0 < j → acc.length ≤ j →
    j ≤ (L s).length → Ev (fun k => impl_Unquote.l0 k s (i0 : Int) (I acc) (j : Int)) (resU (L s) i0 (scan false acc ((L s).drop j)) j) := by
  have hsz := size_L s
  induction n with
  | zero =>
    intro j acc hn hij ha hj
    rw [List.drop_of_length_le (by omega), scan_nil]
    exact Ev.step (f := fun k => some (S [], -1)) (fun k => by rw [impl_Unquote.l0, if_neg (by omega)]; rfl) (Ev.now _)
  | succ n ih =>
    intro j acc hn hij ha hj
    by_cases hlt : j < (L s).length
    · have hz : (j : Int) < (s.size : Int) := by omega
      rw [drop_at _ _ hlt]
      by_cases h1 : at_ (L s) j = 34
      · rw [h1, scan_end]
        refine Ev.step (f := fun k => _) (fun k => by rw [impl_Unquote.l0, if_pos hz, if_pos (by omega), bt_nat, h1, if_pos (by decide), wa1 j (by omega), str_I]) ?_
        have hq := impl_Quote_ev (S acc) (by rw [size_S]; omega)
        rw [L_S] at hq
        refine Ev.bind hq (ev_pos (by omega) (ev_pos (by omega) (ev_pos (by omega) ?_)))
        simp only [resU]
        rw [Int.toNat_natCast, Int.toNat_natCast, toList_S, extract_drop]
        by_cases he : quote acc = ((L s).drop i0).take (j + 1 - i0)
        · exact ev_pos he (ev_use (Ev.now _) (by rw [if_pos he]))
        · exact ev_neg he (ev_use (Ev.now _) (by rw [if_neg he]; rfl))
      · by_cases h2 : at_ (L s) j = 92
        · rw [h2]
          by_cases hl2 : j + 1 < (L s).length
          · rw [drop_at _ _ hl2]
            have hz2 : ((j + 1 : Nat) : Int) < (s.size : Int) := by omega
            refine Ev.step (f := fun k => _) (fun k => by rw [impl_Unquote.l0, if_pos hz, if_pos (by omega), bt_nat, h2, if_neg (by decide), if_pos (by decide), wa1 j (by omega), if_neg (by omega), if_pos (by omega), if_pos hz2, bt_nat]) ?_
            by_cases h3 : at_ (L s) (j + 1) = 110
            · rw [h3, scan_n, res_more]
              refine ev_pos (by decide) (ev_pos (by simp; omega) ?_)
              rw [wa1 (j + 1) (by omega), show ([10] : List Int) = I [10] from rfl, ← I_append]
              exact ih (j + 2) (acc ++ [10]) (by omega) (by omega) (by simp; omega) (by omega)
            · refine ev_neg (fun e => h3 ((byte_is _ 110 110 (by decide)).1 e)) ?_
              by_cases h4 : at_ (L s) (j + 1) = 120
              · refine ev_pos ((byte_is _ 120 120 (by decide)).2 h4) ?_
                rw [h4]
                by_cases hl4 : j + 3 < (L s).length
                · rw [drop_at _ _ (by omega : j + 2 < (L s).length), drop_at _ _ (by omega : j + 3 < (L s).length), scan_x]
                  have ho : s.extract (j + 2) (j + 4) = S [at_ (L s) (j + 2), at_ (L s) (j + 3)] := two_extract s (j + 2) (by omega)
                  have hx := impl_GetHex_ev (S [at_ (L s) (j + 2), at_ (L s) (j + 3)]) (by rw [size_S]; simp)
                  rw [L_S] at hx
                  refine ev_neg (by rw [wa4 j (by omega)]; omega) ?_
                  rw [wa2 j (by omega), wa4 j (by omega), Int.toNat_natCast, Int.toNat_natCast, ho]
                  refine ev_pos (by omega) (ev_pos (by omega) (ev_pos (by omega) (Ev.bind hx ?_)))
                  dsimp only
                  by_cases hk : (getHex [at_ (L s) (j + 2), at_ (L s) (j + 3)]).2 = true
                  · obtain ⟨d, hd⟩ := getHex_two _ _ hk
                    rw [if_pos hk, res_more, hd]
                    refine ev_pos hk (ev_pos (by rw [I_length, size_S]; simp; omega) ?_)
                    rw [wa3 j (by omega), wa1 (j + 3) (by omega), bytesOf_I, L_S, ← I_append]
                    exact ih (j + 4) (acc ++ [d]) (by omega) (by omega) (by simp; omega) (by omega)
                  · rw [if_neg hk, res_none]
                    exact ev_neg hk (Ev.now _)
                · have hn' : scan false acc (92 :: 120 :: (L s).drop (j + 1 + 1)) = none := by
                    by_cases hl3 : j + 2 < (L s).length
                    · rw [drop_at _ _ hl3, show j + 2 + 1 = (L s).length by omega, List.drop_length, scan_x1]
                    · rw [show j + 1 + 1 = (L s).length by omega, List.drop_length, scan_x0]
                  rw [hn', res_none]
                  exact ev_pos (by rw [wa4 j (by omega)]; omega) (Ev.now _)
              · refine ev_neg (fun e => h4 ((byte_is _ 120 120 (by decide)).1 e)) (ev_pos (by simp; omega) ?_)
                rw [scan_d _ _ _ _ h3 h4, if_neg (by simp), res_more, wa1 (j + 1) (by omega), show [((at_ (L s) (j + 1)).toNat : Int)] = I [at_ (L s) (j + 1)] from rfl, ← I_append]
                exact ih (j + 2) _ (by omega) (by omega) (by simp; omega) (by omega)
          · have he : j + 1 = (L s).length := by omega
            rw [he, List.drop_length, scan_bs, res_none]
            refine Ev.step (f := fun k => some (S [], -1)) (fun k => by rw [impl_Unquote.l0, if_pos hz, if_pos (by omega), bt_nat, h2, if_neg (by decide), if_pos (by decide), wa1 j (by omega), if_pos (by omega)]; rfl) (Ev.now _)
        · rw [scan_one _ _ _ _ h1 h2, res_more]
          refine Ev.step (f := fun k => impl_Unquote.l0 k s (i0 : Int) (I (acc ++ [at_ (L s) j])) ((j + 1 : Nat) : Int)) (fun k => ?_) (ih (j + 1) _ (by omega) (by omega) (by simp; omega) (by omega))
          rw [impl_Unquote.l0, if_pos hz, if_pos (by omega), bt_nat, if_neg (fun e => h1 ((byte_is _ 34 34 (by decide)).1 e)), if_neg (fun e => h2 ((byte_is _ 92 92 (by decide)).1 e)), if_pos (by simp; omega), wa1 j (by omega), show [((at_ (L s) j).toNat : Int)] = I [at_ (L s) j] from rfl, ← I_append]
    · rw [List.drop_of_length_le (by omega), scan_nil]
      exact Ev.step (f := fun k => some (S [], -1)) (fun k => by rw [impl_Unquote.l0, if_neg (by omega)]; rfl) (Ev.now _)
def escape (l : B) (p : Nat) : B × Int :=
  if p < l.length then
    (if at_ l p = 110 then ([10], (p : Int) + 1)
     else if at_ l p = 120 ∧ p + 3 ≤ l.length then (if (getHex [at_ l (p + 1), at_ l (p + 2)]).2 = true then ((getHex [at_ l (p + 1), at_ l (p + 2)]).1, (p : Int) + 3) else ([], -1))
     else if at_ l p = 34 ∨ at_ l p = 92 then ([at_ l p], (p : Int) + 1) else ([], -1))
  else ([], -1)
theorem spec_l01Escape_ev (s : ByteArray) (hs : s.size ≤ 1099511627776) (p : Nat) (hp : p ≤ (L s).length) : Ev (fun k => spec_l01Escape.f k s (p : Int)) (S (escape (L s) p).1, (escape (L s) p).2) := by
  have hsz := size_L s
  unfold spec_l01Escape.f escape
  by_cases hlt : p < (L s).length
  · rw [if_pos hlt]
    refine ev_neg (by omega) (ev_pos (by omega) (ev_pos (by omega) ?_))
    rw [bt_nat]
    by_cases h1 : at_ (L s) p = 110
    · rw [if_pos h1]
      exact ev_pos ((byte_is _ 110 110 (by decide)).2 h1) (ev_use (Ev.now _) (by rw [wa1 p (by omega)]; rfl))
    · rw [if_neg h1]
      refine ev_neg (fun e => h1 ((byte_is _ 110 110 (by decide)).1 e)) ?_
      have hf : ∀ (_ : ¬ (at_ (L s) p = 120 ∧ p + 3 ≤ (L s).length)), Ev (fun k => spec_l01Escape.j0 k s (p : Int) false) (S (if at_ (L s) p = 34 ∨ at_ (L s) p = 92 then ([at_ (L s) p], (p : Int) + 1) else ([], -1)).1, (if at_ (L s) p = 34 ∨ at_ (L s) p = 92 then ([at_ (L s) p], (p : Int) + 1) else ([], -1)).2) := by
        intro _
        have hex := one_extract s p hlt
        refine Ev.step (f := fun k => _) (fun k => by rw [spec_l01Escape.j0, if_neg (by decide), if_pos (by omega), if_pos (by omega), bt_nat, wa1 p (by omega), Int.toNat_natCast, Int.toNat_natCast, hex]) ?_
        by_cases h3 : at_ (L s) p = 34
        · refine ev_pos ((byte_is _ 34 34 (by decide)).2 h3) (ev_pos (by omega) (ev_pos (by omega) (ev_use (Ev.now _) ?_)))
          rw [if_pos (Or.inl h3)]; rfl
        · refine ev_neg (fun e => h3 ((byte_is _ 34 34 (by decide)).1 e)) ?_
          by_cases h4 : at_ (L s) p = 92
          · refine ev_pos ((byte_is _ 92 92 (by decide)).2 h4) (ev_pos (by omega) (ev_pos (by omega) (ev_use (Ev.now _) ?_)))
            rw [if_pos (Or.inr h4)]; rfl
          · refine ev_neg (fun e => h4 ((byte_is _ 92 92 (by decide)).1 e)) (ev_use (Ev.now _) ?_)
            rw [if_neg (fun e => e.elim h3 h4)]; rfl
      by_cases h2 : at_ (L s) p = 120
      · refine ev_pos ((byte_is _ 120 120 (by decide)).2 h2) ?_
        by_cases h3 : p + 3 ≤ (L s).length
        · rw [if_pos ⟨h2, h3⟩]
          have ho : s.extract (p + 1) (p + 3) = S [at_ (L s) (p + 1), at_ (L s) (p + 2)] := two_extract s (p + 1) (by omega)
          have hx := spec_GetHex_ev (S [at_ (L s) (p + 1), at_ (L s) (p + 2)]) (by rw [size_S]; simp)
          rw [L_S] at hx
          have hd : decide (wrap64 ((p : Int) + 3) ≤ (s.size : Int)) = true := by rw [wa3 p (by omega)]; exact decide_eq_true (by omega)
          rw [hd]
          refine Ev.step (f := fun k => _) (fun k => by rw [spec_l01Escape.j0, if_pos rfl, wa1 p (by omega), wa3 p (by omega), Int.toNat_natCast, Int.toNat_natCast, ho]) ?_
          refine ev_pos (by omega) (ev_pos (by omega) (ev_pos (by omega) (Ev.bind hx ?_)))
          dsimp only
          by_cases hk : (getHex [at_ (L s) (p + 1), at_ (L s) (p + 2)]).2 = true
          · refine ev_pos hk (ev_use (Ev.now _) ?_)
            rw [if_pos hk]; rfl
          · refine ev_neg hk (ev_use (Ev.now _) ?_)
            rw [if_neg hk]; rfl
        · have hd : decide (wrap64 ((p : Int) + 3) ≤ (s.size : Int)) = false := by rw [wa3 p (by omega)]; exact decide_eq_false (by omega)
          rw [hd, if_neg (by simp [h3])]
          exact hf (by simp [h3])
      · rw [if_neg (by simp [h2])]
        exact ev_neg (fun e => h2 ((byte_is _ 120 120 (by decide)).1 e)) (hf (by simp [h2]))
  · rw [if_neg hlt]
    exact ev_pos (by omega) (Ev.now _)
theorem spec_Unquote_loop (s : ByteArray) (hs : s.size ≤ 1099511627776) (i0 : Nat) (n : Nat) : ∀ (j : Nat) (acc : B), (L s).length - j ≤ n → i0 < j → acc.length ≤ j →
    j ≤ (L s).length → Ev (fun k => spec_Unquote.l0 k s (i0 : Int) (S acc) (j : Int)) (resU (L s) i0 (scan true acc ((L s).drop j)) j) := by
  have hsz := size_L s
  have fin : ∀ (j : Nat) (acc : B), ¬ j < (L s).length → Ev (fun k => spec_Unquote.l0 k s (i0 : Int) (S acc) (j : Int)) (resU (L s) i0 (scan true acc ((L s).drop j)) j) := by
    intro j acc h
    rw [List.drop_of_length_le (by omega), scan_nil]
    refine Ev.step (f := fun k => spec_Unquote.j2 k s (i0 : Int) (S acc) (j : Int) false) (fun k => by rw [spec_Unquote.l0, if_neg (by omega)]) ?_
    exact Ev.step (f := fun k => some (S [], -1)) (fun k => by rw [spec_Unquote.j2, if_neg (by decide), if_pos (by omega)]; rfl) (Ev.now _)
  induction n with
  | zero =>
    intro j acc hn hij ha hj
    exact fin j acc (by omega)
  | succ n ih =>
    intro j acc hn hij ha hj
    by_cases hlt : j < (L s).length
    · have hz : (j : Int) < (s.size : Int) := by omega
      rw [drop_at _ _ hlt]
      refine Ev.step (f := fun k => spec_Unquote.j2 k s (i0 : Int) (S acc) (j : Int) (bt s (j : Int) != 34)) (fun k => by rw [spec_Unquote.l0, if_pos hz, if_pos (by omega)]) ?_
      by_cases h1 : at_ (L s) j = 34
      · have hb : (bt s (j : Int) != 34) = false := by rw [bt_nat, h1]; decide
        rw [hb, h1, scan_end]
        refine Ev.step (f := fun k => _) (fun k => by rw [spec_Unquote.j2, if_neg (by decide), if_neg (by omega), wa1 j (by omega)]) ?_
        have hq := spec_Quote_ev (S acc) (by rw [size_S]; omega)
        rw [L_S] at hq
        refine Ev.bind hq (ev_pos (by omega) (ev_pos (by omega) (ev_pos (by omega) ?_)))
        simp only [resU]
        rw [Int.toNat_natCast, Int.toNat_natCast, toList_S, extract_drop]
        by_cases he : quote acc = ((L s).drop i0).take (j + 1 - i0)
        · exact ev_pos he (ev_use (Ev.now _) (by rw [if_pos he]))
        · exact ev_neg he (ev_use (Ev.now _) (by rw [if_neg he]; rfl))
      · have hb : (bt s (j : Int) != 34) = true := by rw [bt_nat, bne_iff_ne]; exact fun e => h1 ((byte_is _ 34 34 (by decide)).1 e)
        have hex := one_extract s j hlt
        rw [hb]
        refine Ev.step (f := fun k => _) (fun k => by rw [spec_Unquote.j2, if_pos rfl, if_pos (by omega), wa1 j (by omega), if_pos (by omega), if_pos (by omega), if_pos hz, bt_nat, Int.toNat_natCast, Int.toNat_natCast, hex]) ?_
        by_cases h2 : at_ (L s) j = 92
        · refine ev_pos ((byte_is _ 92 92 (by decide)).2 h2) (Ev.bind (spec_l01Escape_ev s hs (j + 1) (by omega)) ?_)
          dsimp only
          rw [h2]
          have bad : Ev (fun k => if (-1 : Int) < 0 then some ((⟨#[]⟩ : ByteArray), (-1 : Int)) else if (S acc).size + (S []).size ≤ 9223372036854775807 then spec_Unquote.l0 k s (i0 : Int) (S acc ++ S []) (-1) else none) (S [], -1) := ev_pos (by decide) (Ev.now _)
          unfold escape
          by_cases hl2 : j + 1 < (L s).length
          · rw [if_pos hl2, drop_at _ _ hl2]
            by_cases h3 : at_ (L s) (j + 1) = 110
            · rw [if_pos h3, h3, scan_n, res_more]
              refine ev_neg (by omega) (ev_pos (by rw [size_S, size_S]; simp; omega) ?_)
              rw [S_append, show ((j + 1 : Nat) : Int) + 1 = ((j + 2 : Nat) : Int) by omega]
              exact ih (j + 2) _ (by omega) (by omega) (by simp; omega) (by omega)
            · rw [if_neg h3]
              by_cases h4 : at_ (L s) (j + 1) = 120
              · rw [h4]
                by_cases hl4 : j + 3 < (L s).length
                · rw [drop_at _ _ (by omega : j + 2 < (L s).length), drop_at _ _ (by omega : j + 3 < (L s).length), scan_x, if_pos ⟨rfl, by omega⟩]
                  by_cases hk : (getHex [at_ (L s) (j + 2), at_ (L s) (j + 3)]).2 = true
                  · obtain ⟨d, hd⟩ := getHex_two _ _ hk
                    rw [if_pos hk, if_pos hk, res_more]
                    dsimp only
                    rw [hd]
                    refine ev_neg (by omega) (ev_pos (by rw [size_S, size_S]; simp; omega) ?_)
                    rw [S_append, show ((j + 1 : Nat) : Int) + 3 = ((j + 4 : Nat) : Int) by omega]
                    exact ih (j + 4) _ (by omega) (by omega) (by simp; omega) (by omega)
                  · rw [if_neg hk, if_neg hk, res_none]; exact bad
                · have hn' : scan true acc (92 :: 120 :: (L s).drop (j + 1 + 1)) = none := by
                    by_cases hl3 : j + 2 < (L s).length
                    · rw [drop_at _ _ hl3, show j + 2 + 1 = (L s).length by omega, List.drop_length, scan_x1]
                    · rw [show j + 1 + 1 = (L s).length by omega, List.drop_length, scan_x0]
                  rw [hn', res_none, if_neg (by omega), if_neg (by decide)]
                  exact bad
              · rw [if_neg (by simp [h4])]
                rw [scan_d _ _ _ _ h3 h4]
                by_cases h5 : at_ (L s) (j + 1) = 34 ∨ at_ (L s) (j + 1) = 92
                · rw [if_pos h5, if_neg (by rcases h5 with h5 | h5 <;> simp [h5]), res_more]
                  refine ev_neg (by omega) (ev_pos (by rw [size_S, size_S]; simp; omega) ?_)
                  rw [S_append, show ((j + 1 : Nat) : Int) + 1 = ((j + 2 : Nat) : Int) by omega]
                  exact ih (j + 2) _ (by omega) (by omega) (by simp; omega) (by omega)
                · rw [if_neg h5, if_pos ⟨rfl, fun e => h5 (.inl e), fun e => h5 (.inr e)⟩, res_none]; exact bad
          · rw [if_neg hl2, show j + 1 = (L s).length by omega, List.drop_length, scan_bs, res_none]; exact bad
        · refine ev_neg (fun e => h2 ((byte_is _ 92 92 (by decide)).1 e)) (ev_neg (by omega) (ev_pos (by rw [size_S, size_S]; simp; omega) ?_))
          rw [scan_one _ _ _ _ h1 h2, res_more, S_append]
          exact ih (j + 1) _ (by omega) (by omega) (by simp; omega) (by omega)
    · exact fin j acc hlt
def unquote (l : B) (i : Int) : ByteArray × Int := if 0 ≤ i ∧ i < l.length ∧ at_ l i.toNat = 34 then resU l i.toNat (scan false [] (l.drop (i.toNat + 1))) (i.toNat + 1) else (S [], -1)
theorem res_strict (l : B) (i : Nat) (hi : i < l.length) (h : at_ l i = 34) : resU l i (scan true [] (l.drop (i + 1))) (i + 1) = resU l i (scan false [] (l.drop (i + 1))) (i + 1) := by
  cases hf : scan false [] (l.drop (i + 1)) with
  | none =>
    cases ht : scan true [] (l.drop (i + 1)) with
    | none => rfl
    | some x => rw [scan_loose _ _ _ _ (Nat.le_refl _) ht] at hf; cases hf
  | some x =>
    obtain ⟨t, m⟩ := x
    have hc : (quote t = (l.drop i).take (i + 1 + m - i)) ↔ quoteIn t ++ [34] = (l.drop (i + 1)).take m := by
      rw [drop_at l i hi, h, show i + 1 + m - i = m + 1 by omega, List.take_succ_cons, quote]
      simp
    by_cases he : quoteIn t ++ [34] = (l.drop (i + 1)).take m
    · rw [show scan true [] (l.drop (i + 1)) = some (t, m) from scan_strict _ [] _ t m (Nat.le_refl _) hf he]
    · cases ht : scan true [] (l.drop (i + 1)) with
      | none => simp only [resU]; rw [if_neg (fun e => he (hc.1 e))]
      | some x =>
        obtain ⟨t', m'⟩ := x
        have := scan_loose _ _ _ _ (Nat.le_refl _) ht
        rw [hf] at this
        cases this; rfl
theorem impl_Unquote_ev (s : ByteArray) (i : Int) (hs : s.size ≤ 1099511627776) : Ev (fun k => impl_Unquote.f k s i) (unquote (L s) i) := by
  have hsz := size_L s
  unfold impl_Unquote.f unquote
  rw [impl_within_eq, w64 (by omega) (by omega)]
  refine ev_some ?_
  have bad : Ev (fun k => impl_Unquote.j0 k s i true) (S [], -1) := Ev.step (f := fun k => some (S [], -1)) (fun k => by rw [impl_Unquote.j0, if_pos rfl]; rfl) (Ev.now _)
  by_cases h : 0 ≤ i ∧ i ≤ (s.size : Int) - 1
  · obtain ⟨n, rfl⟩ := Int.eq_ofNat_of_zero_le h.1
    refine ev_pos (by simpa using h) (ev_pos (by omega) (ev_pos (by omega) ?_))
    rw [bt_nat, Int.toNat_natCast]
    by_cases h1 : at_ (L s) n = 34
    · have hb : (((at_ (L s) n).toNat : Int) != 34) = false := by rw [h1]; decide
      rw [hb, if_pos ⟨by omega, by omega, h1⟩]
      refine Ev.step (f := fun k => impl_Unquote.l0 k s (n : Int) (I []) ((n + 1 : Nat) : Int)) (fun k => by rw [impl_Unquote.j0, if_neg (by decide), inc n (by omega)]; rfl) ?_
      exact impl_Unquote_loop s hs n _ (n + 1) [] (Nat.le_refl _) (by omega) (by simp) (by omega)
    · have hb : (((at_ (L s) n).toNat : Int) != 34) = true := by rw [bne_iff_ne]; exact fun e => h1 ((byte_is _ 34 34 (by decide)).1 e)
      rw [hb, if_neg (fun e => h1 e.2.2)]
      exact bad
  · refine ev_neg (by simpa using h) ?_
    rw [if_neg (by omega)]
    exact bad
theorem spec_Unquote_ev (s : ByteArray) (i : Int) (hs : s.size ≤ 1099511627776) : Ev (fun k => spec_Unquote.f k s i) (unquote (L s) i) := by
  have hsz := size_L s
  unfold spec_Unquote.f unquote
  have bad : Ev (fun k => spec_Unquote.j0 k s i true) (S [], -1) := Ev.step (f := fun k => some (S [], -1)) (fun k => by rw [spec_Unquote.j0, if_pos rfl]; rfl) (Ev.now _)
  by_cases h0 : i < 0
  · refine ev_pos h0 ?_
    rw [if_neg (by omega)]; exact bad
  · refine ev_neg h0 ?_
    by_cases h1 : i ≥ (s.size : Int)
    · refine ev_pos h1 ?_
      rw [if_neg (by omega)]; exact bad
    · obtain ⟨n, rfl⟩ := Int.eq_ofNat_of_zero_le (by omega : 0 ≤ i)
      refine ev_neg h1 (ev_pos (by omega) (ev_pos (by omega) ?_))
      rw [bt_nat, Int.toNat_natCast]
      by_cases h2 : at_ (L s) n = 34
      · have hb : (((at_ (L s) n).toNat : Int) != 34) = false := by rw [h2]; decide
        rw [hb, if_pos ⟨by omega, by omega, h2⟩, ← res_strict _ _ (by omega) h2]
        refine Ev.step (f := fun k => spec_Unquote.l0 k s (n : Int) (S []) ((n + 1 : Nat) : Int)) (fun k => by rw [spec_Unquote.j0, if_neg (by decide), inc n (by omega)]; rfl) ?_
        exact spec_Unquote_loop s hs n _ (n + 1) [] (Nat.le_refl _) (by omega) (by simp) (by omega)
      · have hb : (((at_ (L s) n).toNat : Int) != 34) = true := by rw [bne_iff_ne]; exact fun e => h2 ((byte_is _ 34 34 (by decide)).1 e)
        rw [hb, if_neg (fun e => h2 e.2.2)]
        exact bad
end Go.Proofs.YtbfbomcfmgdpkaaGreatDoor.U

end
section
namespace Go.Proofs.YtbfbomcfmgdpkaaGreatDoor.U
open Go Go.RowKit Go.Proofs.YtbfbomcfmgdpkaaGreatDoorW.PrintWords
set_option linter.unusedVariables false
set_option linter.unusedSimpArgs false
def szOut (left w : Int) : Int := if w ≤ left then left - w else -1
theorem szOut_neg {left w : Int} (h : left < w) : szOut left w = -1 := by unfold szOut; rw [if_neg (by omega)]
theorem szOut_pos {left w : Int} (h : w ≤ left) : szOut left w = left - w := by unfold szOut; rw [if_pos h]
def Room (x : Int) : Prop := 0 ≤ x ∧ x ≤ 1048576
theorem room_sub {left : Int} {n : Nat} (hl : Room left) (hn : n ≤ maxLen) : wrap64 (left - (n : Int)) = left - n := by
  unfold Room at hl; exact w64 (by unfold maxLen at hn; omega) (by omega)
theorem szOut_add {left v w : Int} (hv : 0 ≤ v) (hw : 0 ≤ w) (h : v ≤ left) : szOut (left - v) w = szOut left (v + w) := by
  unfold szOut; by_cases h1 : w ≤ left - v
  · rw [if_pos h1, if_pos (by omega)]; omega
  · rw [if_neg h1, if_neg (by omega)]
def Sz (g : Nat → Int → Option Int) (w : Int) : Prop := 0 ≤ w ∧ ∀ left, Room left → Ev (fun k => g k left) (szOut left w)
def sumW {α : Type} (w : α → Int) : List α → Int
  | [] => 0
  | x :: l => w x + sumW w l
def wList {α : Type} (w : α → Int) (l : List α) : Int := l.length + sumW w l
theorem drop_getD {α : Type} (l : List α) (i : Nat) (z : α) (h : i < l.length) : l.drop i = l.getD i z :: l.drop (i + 1) := by
  rw [List.getD_eq_getElem?_getD, List.getElem?_eq_getElem h]; exact List.drop_eq_getElem_cons h
def w_StringS (l : List ByteArray) : Int := wList (fun s => (s.size : Int)) l
end Go.Proofs.YtbfbomcfmgdpkaaGreatDoor.U

end
section
namespace Go.Proofs.YtbfbomcfmgdpkaaGreatDoor.U
open Go Go.RowKit Go.Proofs.YtbfbomcfmgdpkaaGreatDoorW.PrintWords Go.Proofs.YtbfbomcfmgdpkaaGreatDoor.G
set_option linter.unusedVariables false
def cutP (c : UInt8) : B → B → List B
  | p, [] => [p]
  | p, x :: l => if x = c then p :: cutP c [] l else cutP c (p ++ [x]) l
theorem cutP_len (c : UInt8) : ∀ l p, 1 ≤ (cutP c p l).length ∧ (cutP c p l).length ≤ l.length + 1 := by
  intro l
  induction l with
  | nil => intro p; simp [cutP]
  | cons x l ih =>
    intro p
    unfold cutP
    by_cases h : x = c
    · rw [if_pos h]; have := ih []; simp only [List.length_cons]; omega
    · rw [if_neg h]; have := ih (p ++ [x]); simp only [List.length_cons]; omega
theorem spec_l01Cut_l (s : ByteArray) (c : UInt8) (hs : s.size ≤ 1048576) : ∀ d j (a : Nat) (x5 : List ByteArray), j + d = (L s).length → a ≤ j → x5.length ≤ j →
    Ev (fun k => spec_l01Cut.l0 k s (c.toNat : Int) x5 (a : Int) (j : Int)) (x5 ++ (cutP c (((L s).take j).drop a) ((L s).drop j)).map S) := by
  rw [size_L] at hs
  intro d
  induction d with
  | zero =>
    intro j a x5 hj ha h5
    have e : j = (L s).length := by omega
    subst e
    rw [List.drop_length, List.take_length]
    refine Ev.step (f := fun _ => some (x5 ++ (cutP c ((L s).drop a) []).map S)) (fun k => ?_) (Ev.now _)
    have e1 : s.extract (((a : Nat) : Int)).toNat s.size = S ((L s).drop a) := by
      apply L_inj; rw [L_extract, L_S, Int.toNat_natCast, size_L, List.take_of_length_le (by rw [List.length_drop]; omega)]
    rw [spec_l01Cut.l0, if_neg (by rw [size_L]; omega), if_pos (by omega), if_pos (by rw [size_L]; omega), if_pos (by omega), e1]
    rfl
  | succ d ih =>
    intro j a x5 hj ha h5
    have h : j < (L s).length := by omega
    rw [drop_at (L s) j h]
    by_cases hc : at_ (L s) j = c
    · have e1 : s.extract (((a : Nat) : Int)).toNat ((j : Int)).toNat = S (((L s).take j).drop a) := by
        apply L_inj; rw [L_extract, L_S, Int.toNat_natCast, Int.toNat_natCast, List.drop_take]
      refine Ev.step (f := fun k => spec_l01Cut.l0 k s (c.toNat : Int) (x5 ++ [S (((L s).take j).drop a)]) ((j + 1 : Nat) : Int) ((j + 1 : Nat) : Int)) (fun k => ?_) ?_
      · rw [spec_l01Cut.l0, if_pos (by rw [size_L]; omega), if_pos (by omega), bt_nat, if_pos (by rw [hc]), if_pos (by omega), if_pos (by omega), if_pos (by rw [size_L]; omega), if_pos (by omega), e1, wa1 j (by omega)]
      · refine ev_use (ih (j + 1) (j + 1) _ (by omega) (Nat.le_refl _) (by rw [List.length_append]; simp; omega)) ?_
        have e2 : ((L s).take (j + 1)).drop (j + 1) = [] := List.drop_eq_nil_of_le (by rw [List.length_take]; omega)
        rw [e2]
        conv => rhs; unfold cutP
        rw [if_pos hc, List.map_cons, List.append_assoc]; rfl
    · have hb : ¬ ((at_ (L s) j).toNat : Int) = (c.toNat : Int) := fun e => hc (byte_inj e)
      refine Ev.step (f := fun k => spec_l01Cut.l0 k s (c.toNat : Int) x5 (a : Int) ((j + 1 : Nat) : Int)) (fun k => ?_) ?_
      · rw [spec_l01Cut.l0, if_pos (by rw [size_L]; omega), if_pos (by omega), bt_nat, if_neg hb, wa1 j (by omega)]
      · refine ev_use (ih (j + 1) a x5 (by omega) (by omega) (by omega)) ?_
        have e2 : ((L s).take (j + 1)).drop a = ((L s).take j).drop a ++ [at_ (L s) j] := by
          rw [take_at (L s) j h, List.drop_append_of_le_length (by rw [List.length_take]; omega)]
        rw [e2]
        conv => rhs; unfold cutP
        rw [if_neg hc]
theorem spec_l01Cut_ev (s : ByteArray) (c : UInt8) (hs : s.size ≤ 1048576) : Ev (fun k => spec_l01Cut.f k s (c.toNat : Int)) ((cutP c [] (L s)).map S) := by
  have := spec_l01Cut_l s c hs (L s).length 0 0 [] (by omega) (by omega) (by simp)
  unfold spec_l01Cut.f
  simpa using this
theorem index_free (c : UInt8) : ∀ (p l : B), c ∉ p → Lib.indexByte (p ++ c :: l) c = (p.length : Int) := by
  intro p
  induction p with
  | nil => intro l _; simp [Lib.indexByte]
  | cons x p ih =>
    intro l h
    simp only [List.mem_cons, not_or] at h
    have hx : ¬ x = c := fun e => h.1 e.symm
    have := ih l h.2
    rw [List.cons_append]
    unfold Lib.indexByte
    rw [if_neg (by simpa using hx), this, if_neg (by simp), List.length_cons]; omega
theorem splitK_cut (c : UInt8) : ∀ (l p : B), c ∉ p → Lib.splitK [c] 0 ((p ++ l).count c) (p ++ l) = cutP c p l := by
  intro l
  induction l with
  | nil =>
    intro p hp
    rw [List.append_nil, List.count_eq_zero_of_not_mem hp]; rfl
  | cons x l ih =>
    intro p hp
    unfold cutP
    by_cases h : x = c
    · subst h
      rw [if_pos rfl]
      have e : (p ++ x :: l).count x = l.count x + 1 := by rw [List.count_append, List.count_eq_zero_of_not_mem hp, List.count_cons_self]; omega
      have ei : Lib.index (p ++ x :: l) [x] = (p.length : Int) := by rw [Lib.index_one, index_free x p l hp]
      rw [e, Lib.splitK, if_neg (by rw [ei]; simp), ei, Int.toNat_natCast, List.take_left']
      · have ed : (p ++ x :: l).drop (p.length + [x].length) = l := by rw [List.drop_append]; simp
        rw [ed]; congr 1
        exact ih [] (by simp)
      · simp
    · rw [if_neg h]
      have := ih (p ++ [x]) (by simp only [List.mem_append, List.mem_singleton, not_or]; exact ⟨hp, fun e => h e.symm⟩)
      rw [List.append_assoc] at this; exact this
theorem split_one (s : ByteArray) (c : UInt8) (hs : s.size ≤ 1048576) : strings_Split.f s (S [c]) = some ((cutP c [] (L s)).map S) := by
  unfold strings_Split.f
  rw [if_pos ⟨by omega, by simp⟩]
  congr 1
  have e1 : (S [c]).data.toList = [c] := L_S [c]
  have e2 : Lib.countB s (S [c]) = (L s).count c := by
    show Lib.count s.data.toList (S [c]).data.toList = _
    rw [e1, Lib.count_one]; rfl
  have e3 := Lib.splitB_data (S [c]) 0 (Lib.countB s (S [c])) s
  rw [e1, e2] at e3
  have e4 := splitK_cut c (L s) [] (by simp)
  rw [List.nil_append] at e4
  rw [e2]
  have e5 : (Lib.splitB (S [c]) 0 ((L s).count c) s).map L = cutP c [] (L s) := e3.trans e4
  rw [← e5, List.map_map]
  have : (S ∘ L) = (id : ByteArray → ByteArray) := by funext x; exact S_L x
  rw [this, List.map_id]
end Go.Proofs.YtbfbomcfmgdpkaaGreatDoor.U

end
section
namespace Go.Proofs.YtbfbomcfmgdpkaaGreatDoor.U
open Go Go.RowKit Go.Proofs.YtbfbomcfmgdpkaaGreatDoorW.PrintWords Go.Proofs.YtbfbomcfmgdpkaaGreatDoor.G
def linesL (s : ByteArray) : List ByteArray := if (rdOf ByteArray.empty ((cutP 10 [] (L s)).map S) (wrap64 ((((cutP 10 [] (L s)).map S).length : Int) - 1))).toList = ([] : List UInt8) then (((cutP 10 [] (L s)).map S).take ((wrap64 ((((cutP 10 [] (L s)).map S).length : Int) - 1))).toNat) else (cutP 10 [] (L s)).map S
theorem linesL_len (s : ByteArray) : (linesL s).length ≤ (L s).length + 1 := by
  have := (cutP_len 10 (L s) []).2
  unfold linesL
  split
  · rw [List.length_take, List.length_map]; omega
  · rw [List.length_map]; exact this
theorem lines_some (s : ByteArray) (hs : s.size ≤ 1048576) (t : List ByteArray) (ht : t = (cutP 10 [] (L s)).map S) : (if 0 ≤ (wrap64 ((t.length : Int) - 1)) then (if (wrap64 ((t.length : Int) - 1)) < (t.length : Int) then (if (rdOf ByteArray.empty t (wrap64 ((t.length : Int) - 1))).toList = ([] : List UInt8) then (if (wrap64 ((t.length : Int) - 1)) ≤ (t.length : Int) then (some (t.take ((wrap64 ((t.length : Int) - 1))).toNat)) else none) else (some t)) else none) else none) = some (linesL s) := by
  have h := cutP_len 10 (L s) []
  rw [size_L] at hs
  have hl : t.length = (cutP 10 [] (L s)).length := by rw [ht, List.length_map]
  have e : wrap64 ((t.length : Int) - 1) = (t.length : Int) - 1 := w64 (by omega) (by omega)
  unfold linesL
  rw [← ht, if_pos (by rw [e]; omega), if_pos (by rw [e]; omega)]
  split
  · rw [if_pos (by rw [e]; omega)]
  · rfl
theorem spec_Lines_ev (s : ByteArray) (hs : s.size ≤ 1048576) : Ev (fun k => spec_Lines.f k s) (linesL s) := by
  unfold spec_Lines.f
  refine Ev.bind (spec_l01Cut_ev s 10 hs) ?_
  rw [lines_some s hs _ rfl]; exact Ev.now _
theorem impl_Lines_eq (s : ByteArray) (hs : s.size ≤ 1048576) : impl_Lines.f s = some (linesL s) := by
  unfold impl_Lines.f
  rw [show strings_Split.f s (⟨#[10]⟩ : ByteArray) = _ from split_one s 10 hs, Option.bind_some]
  exact lines_some s hs _ rfl
end Go.Proofs.YtbfbomcfmgdpkaaGreatDoor.U

end
section
namespace Go.Proofs.YtbfbomcfmgdpkaaGreatDoor.U
open Go Go.RowKit Go.Proofs.YtbfbomcfmgdpkaaGreatDoorW.PrintWords Go.Proofs.YtbfbomcfmgdpkaaGreatDoor.G
set_option linter.unusedVariables false
set_option linter.unusedSimpArgs false
def lastIx (l : B) (c : UInt8) : Int := Lib.lastIndex l [c]
def lastBelow (l : B) (c : UInt8) : Nat → Int
  | 0 => -1
  | i + 1 => if at_ l i = c then (i : Int) else lastBelow l c i
theorem occ_one (l : B) (c : UInt8) (i : Nat) (h : i < l.length) : Lib.occAt l [c] i = decide (at_ l i = c) := by
  unfold Lib.occAt
  rw [drop_at l i h]
  simp only [List.isPrefixOf, Bool.and_true]
  by_cases e : at_ l i = c
  · subst e; simp
  · have e' : ¬ c = at_ l i := fun x => e x.symm
    simp [e, e']
theorem lastOcc_below (l : B) (c : UInt8) (i : Nat) (h : i ≤ l.length) : Lib.lastOcc l [c] i = lastBelow l c i := by
  induction i with
  | zero => rfl
  | succ i ih =>
    rw [Lib.lastOcc, lastBelow, occ_one l c i (by omega), ih (by omega)]
    simp
theorem lastIx_below (l : B) (c : UInt8) : lastIx l c = lastBelow l c l.length := by
  unfold lastIx Lib.lastIndex
  split
  · rename_i h
    simp at h
    rw [List.length_singleton, show l.length - 1 + 1 = l.length by omega]
    exact lastOcc_below l c _ (Nat.le_refl _)
  · rename_i h
    have : l.length = 0 := by simp at h; simp [h]
    rw [this]; rfl
theorem lastBelow_range (l : B) (c : UInt8) (i : Nat) : -1 ≤ lastBelow l c i ∧ lastBelow l c i < i := by
  induction i with
  | zero => exact ⟨Int.le_refl _, by show (-1 : Int) < 0; decide⟩
  | succ i ih => rw [lastBelow]; split <;> omega
theorem lastIx_range (l : B) (c : UInt8) : -1 ≤ lastIx l c ∧ lastIx l c < l.length := by rw [lastIx_below]; exact lastBelow_range l c _
theorem strings_LastIndex_eq (s : ByteArray) (c : UInt8) (hs : s.size ≤ 1099511627776) : strings_LastIndex.f s (S [c]) = some (lastIx (L s) c) := by
  unfold strings_LastIndex.f
  rw [if_pos (by omega)]; rfl
theorem take_extract (s : ByteArray) (n : Nat) : s.extract 0 n = S ((L s).take n) := L_inj (by rw [L_extract, L_S, List.drop_zero]; simp)
theorem strings_Count_eq (s : ByteArray) (c : UInt8) : strings_Count.f s (S [c]) = some (((L s).count c : Nat) : Int) := by
  unfold strings_Count.f
  rw [dif_pos (by rfl)]
  rfl
def place (l : B) (i : Int) : Int × Int := if 0 ≤ i ∧ i ≤ l.length then (1 + (((l.take i.toNat).count 10 : Nat) : Int), i - lastIx (l.take i.toNat) 10) else (0, 0)
theorem lastIx_snoc (l : B) (x c : UInt8) : lastIx (l ++ [x]) c = if x = c then (l.length : Int) else lastIx l c := by
  have hb : ∀ i, i ≤ l.length → lastBelow (l ++ [x]) c i = lastBelow l c i := by
    intro i
    induction i with
    | zero => intro _; rfl
    | succ i ih =>
      intro hi
      rw [lastBelow, lastBelow, ih (by omega)]
      have : at_ (l ++ [x]) i = at_ l i := by rw [at_eq _ _ (by simp; omega), at_eq _ _ (by omega), List.getElem_append_left]
      rw [this]
  rw [lastIx_below, lastIx_below, List.length_append, List.length_singleton, lastBelow, hb _ (Nat.le_refl _)]
  have : at_ (l ++ [x]) l.length = x := by rw [at_eq _ _ (by simp)]; simp
  rw [this]
theorem spec_Place_ev (s : ByteArray) (i : Int) (hs : s.size ≤ 1099511627776) : Ev (fun k => spec_Place.f k s i) (place (L s) i) := by
  have hsz := size_L s
  unfold spec_Place.f
  rw [spec_l01In_eq]
  refine ev_some ?_
  by_cases h : 0 ≤ i ∧ i ≤ (s.size : Int)
  · refine ev_pos (by simpa using h) ?_
    obtain ⟨n, rfl⟩ := Int.eq_ofNat_of_zero_le h.1
    have hn : n ≤ (L s).length := by omega
    unfold place
    rw [if_pos ⟨by omega, by omega⟩, Int.toNat_natCast]
    have hlr := fun j => lastIx_range ((L s).take j) 10
    have hc0 : ∀ j, ((L s).take j).count 10 ≤ j := fun j => Nat.le_trans List.count_le_length (List.length_take_le _ _)
    refine loop_up (fun k j (st : Int × Int) => spec_Place.l0 k s (n : Int) st.1 st.2 j) n (fun j st => st = (1 + ((((L s).take j).count 10 : Nat) : Int), 1 + (j : Int) - (lastIx ((L s).take j) 10 + 1))) (fun _ _ => (1 + ((((L s).take n).count 10 : Nat) : Int), (n : Int) - lastIx ((L s).take n) 10)) ?_ ?_ 0 (1, 1) (by omega) (by simp [lastIx_below, lastBelow])
    · rintro st rfl
      refine Ev.step (f := fun k => some _) (fun k => by rw [spec_Place.l0, if_neg (by omega)]) (ev_use (Ev.now _) ?_)
      ext <;> simp; omega
    · rintro j st hj rfl ih
      have hjl : j < (L s).length := by omega
      have h1 := hlr j
      have h2 := hc0 j
      rw [List.length_take] at h1
      have hts := take_at (L s) j hjl
      by_cases e : at_ (L s) j = 10
      · refine Ev.step (f := fun k => spec_Place.l0 k s (n : Int) (1 + ((((L s).take (j + 1)).count 10 : Nat) : Int)) 1 ((j + 1 : Nat) : Int)) (fun k => ?_) (ih (1 + ((((L s).take (j + 1)).count 10 : Nat) : Int), 1) ?_)
        · rw [spec_Place.l0, if_pos (by omega), if_pos (by omega), if_pos (by omega), bt_nat, e, if_pos (by decide), inc j (by omega)]
          dsimp only
          rw [w64 (by omega) (by omega), hts, e, List.count_append]
          congr 1
          first | done | (simp; done) | (simp; omega)
        · ext
          · rfl
          · show (1 : Int) = _
            rw [hts, e, lastIx_snoc, if_pos rfl, List.length_take]; omega
      · refine Ev.step (f := fun k => spec_Place.l0 k s (n : Int) (1 + ((((L s).take (j + 1)).count 10 : Nat) : Int)) (1 + ((j + 1 : Nat) : Int) - (lastIx ((L s).take (j + 1)) 10 + 1)) ((j + 1 : Nat) : Int)) (fun k => ?_) (ih (1 + ((((L s).take (j + 1)).count 10 : Nat) : Int), 1 + ((j + 1 : Nat) : Int) - (lastIx ((L s).take (j + 1)) 10 + 1)) rfl)
        rw [spec_Place.l0, if_pos (by omega), if_pos (by omega), if_pos (by omega), bt_nat, if_neg (fun e' => e ((byte_is _ 10 10 (by decide)).1 e')), inc j (by omega)]
        dsimp only
        rw [w64 (by omega) (by omega), hts, lastIx_snoc, if_neg e, List.count_append, show List.count 10 [at_ (L s) j] = 0 by simp [e]]
        congr 1
        first | done | omega
  · refine ev_neg (by simpa using h) (ev_use (Ev.now _) ?_)
    unfold place
    rw [if_neg (by rw [← hsz]; exact h)]
theorem impl_Place_eq (s : ByteArray) (i : Int) (hs : s.size ≤ 1099511627776) : impl_Place.f s i = some (place (L s) i) := by
  have hsz := size_L s
  unfold impl_Place.f place
  rw [impl_within_eq, Option.bind_some]
  by_cases h : 0 ≤ i ∧ i ≤ (s.size : Int)
  · have hr := lastIx_range ((L s).take i.toNat) 10
    have hc : ((L s).take i.toNat).count 10 ≤ (L s).length := Nat.le_trans List.count_le_length (List.length_take_le' _ _)
    have hl : ((L s).take i.toNat).length ≤ (L s).length := List.length_take_le' _ _
    have h3 : ((S ((L s).take i.toNat)).size) ≤ 1099511627776 := by rw [size_S]; omega
    rw [if_pos (by simpa using h), if_pos h.1, if_pos h.2, if_pos (by rw [← hsz]; exact h), take_extract, show (⟨#[10]⟩ : ByteArray) = S [10] from rfl, strings_Count_eq, strings_LastIndex_eq _ _ h3, Option.bind_some, Option.bind_some, L_S, w64 (by omega) (by omega), w64 (by omega) (by omega)]
  · rw [if_neg (by simpa using h), if_neg (by rw [← hsz]; exact h)]
theorem idx_at3 (d : Nat) (h : d < 16) : idx hexd (at_ hexd d) = (d : Int) := by
  have : ∀ d : Fin 16, idx hexd (at_ hexd d.val) = (d.val : Int) := by decide
  exact this ⟨d, h⟩
theorem getHex_one (c : UInt8) : getHex (hexOf c) = ([c], true) := by
  have hc : c.toNat < 256 := c.toNat_lt
  have e : pairs hexd [] (hexOf c) = ([c], true) := by
    show pairs hexd [] [at_ hexd (c.toNat / 16), at_ hexd (c.toNat % 16)] = _
    rw [pairs, idx_at3 _ (by omega), idx_at3 _ (by omega), if_neg (by omega), pairs, Int.toNat_natCast, Int.toNat_natCast, show 16 * (c.toNat / 16) + c.toNat % 16 = c.toNat by omega]
    simp
  unfold getHex
  rw [e, if_pos rfl]
theorem scan_le : ∀ (N : Nat) (st : Bool) (a r : B) (x : B) (m : Nat), r.length ≤ N → scan st a r = some (x, m) → m ≤ r.length := by
  intro N
  induction N with
  | zero => intro st a r x m hr h; obtain rfl : r = [] := List.eq_nil_of_length_eq_zero (by omega); rw [scan_nil] at h; cases h
  | succ N ihN =>
    intro st a r x m hr h
    have st1 : ∀ (k : Nat) (p r' : B), r'.length ≤ N → r'.length + k ≤ r.length → more k (scan st (a ++ p) r') = some (x, m) → m ≤ r.length := by
      intro k p r' hr' hk h'
      obtain ⟨m', e, hm⟩ := more_eq h'
      have := ihN st (a ++ p) r' x m' hr' e
      omega
    cases r with
    | nil => rw [scan_nil] at h; cases h
    | cons c r1 =>
      simp only [List.length_cons] at hr st1 ⊢
      by_cases h1 : c = 34
      · subst h1; rw [scan_end] at h; cases h; omega
      · by_cases h2 : c = 92
        · subst h2
          cases r1 with
          | nil => rw [scan_bs] at h; cases h
          | cons d r2 =>
            simp only [List.length_cons] at hr st1 ⊢
            by_cases h3 : d = 110
            · subst h3; rw [scan_n] at h; exact st1 _ _ _ (by omega) (by omega) h
            · by_cases h4 : d = 120
              · subst h4
                match r2, hr, h, st1 with
                | [], hr, h, st1 => rw [scan_x0] at h; cases h
                | [a'], hr, h, st1 => rw [scan_x1] at h; cases h
                | a' :: b :: r4, hr, h, st1 =>
                  simp only [List.length_cons] at hr st1 ⊢
                  rw [scan_x] at h
                  split at h
                  · exact st1 _ _ _ (by omega) (by omega) h
                  · cases h
              · rw [scan_d _ _ _ _ h3 h4] at h
                split at h
                · cases h
                · exact st1 _ _ _ (by omega) (by omega) h
        · rw [scan_one _ _ _ _ h1 h2] at h; exact st1 _ _ _ (by omega) (by omega) h
theorem scan_quote : ∀ (q acc r : B), scan false acc (quoteIn q ++ 34 :: r) = some (acc ++ q, (quoteIn q).length + 1)
  | [], acc, r => by show scan false acc (34 :: r) = _; rw [scan_end, List.append_nil]; rfl
  | c :: q, acc, r => by
    have hcons : quoteIn (c :: q) = quote1 c ++ quoteIn q := rfl
    have fin : ∀ k : Nat, (quote1 c).length = k → more k (scan false (acc ++ [c]) (quoteIn q ++ 34 :: r)) = some (acc ++ c :: q, (quote1 c ++ quoteIn q).length + 1) := by
      intro k hk
      rw [scan_quote q (acc ++ [c]) r, more_some, List.length_append, hk, List.append_assoc, List.singleton_append]
      congr 2; omega
    rw [hcons, List.append_assoc]
    unfold quote1 at fin ⊢
    by_cases h1 : c = 34 ∨ c = 92
    · rw [if_pos h1] at fin ⊢
      show scan false acc (92 :: c :: (quoteIn q ++ 34 :: r)) = _
      have n1 : c ≠ 110 := by rcases h1 with rfl | rfl <;> decide
      have n2 : c ≠ 120 := by rcases h1 with rfl | rfl <;> decide
      rw [scan_d _ _ _ _ n1 n2, if_neg (fun h => by cases h.1)]
      exact fin 2 rfl
    · rw [if_neg h1] at fin ⊢
      by_cases h2 : c = 10
      · rw [if_pos h2] at fin ⊢
        show scan false acc (92 :: 110 :: (quoteIn q ++ 34 :: r)) = _
        rw [scan_n, ← h2]
        exact fin 2 rfl
      · rw [if_neg h2] at fin ⊢
        by_cases h3 : c.toNat < 32 ∨ 127 ≤ c.toNat
        · rw [if_pos h3] at fin ⊢
          show scan false acc (92 :: 120 :: at_ hexd (c.toNat / 16) :: at_ hexd (c.toNat % 16) :: (quoteIn q ++ 34 :: r)) = _
          have e : getHex [at_ hexd (c.toNat / 16), at_ hexd (c.toNat % 16)] = ([c], true) := getHex_one c
          rw [scan_x, e, if_pos rfl]
          exact fin 4 rfl
        · rw [if_neg h3] at fin ⊢
          show scan false acc (c :: (quoteIn q ++ 34 :: r)) = _
          rw [scan_one _ _ _ _ (fun h => h1 (.inl h)) (fun h => h1 (.inr h))]
          exact fin 1 rfl
theorem unquote_quote (q : B) : unquote (quote q) 0 = (S q, ((quote q).length : Int)) := by
  have hl : (quote q).length = (quoteIn q).length + 2 := by unfold quote; rw [List.length_cons, List.length_append, List.length_singleton]
  unfold unquote
  rw [if_pos ⟨Int.le_refl _, by omega, rfl⟩]
  show resU (quote q) 0 (scan false [] ((quote q).drop 1)) 1 = _
  have hd : (quote q).drop 1 = quoteIn q ++ 34 :: [] := rfl
  rw [hd, scan_quote q [] [], List.nil_append]
  show (if quote q = ((quote q).drop 0).take (1 + ((quoteIn q).length + 1) - 0) then (S q, ((1 + ((quoteIn q).length + 1) : Nat) : Int)) else (S [], -1)) = _
  rw [if_pos (by rw [List.drop_zero, List.take_of_length_le (by omega)])]
  congr 1; omega
theorem unquote_own (l : B) (i : Int) (h : (unquote l i).2 ≥ 0) : 0 ≤ i ∧ i ≤ (unquote l i).2 ∧ (unquote l i).2 ≤ (l.length : Int) ∧ quote (L (unquote l i).1) = (l.drop i.toNat).take ((unquote l i).2.toNat - i.toNat) := by
  unfold unquote at h ⊢
  by_cases c : 0 ≤ i ∧ i < l.length ∧ at_ l i.toNat = 34
  · rw [if_pos c] at h ⊢
    cases hs : scan false [] (l.drop (i.toNat + 1)) with
    | none => rw [hs] at h; exact absurd h (by show ¬ (-1 : Int) ≥ 0; omega)
    | some x =>
      obtain ⟨t, m⟩ := x
      have hm := scan_le _ _ _ _ _ _ (Nat.le_refl _) hs
      rw [List.length_drop] at hm
      rw [hs] at h
      unfold resU at h ⊢
      by_cases e : quote t = (l.drop i.toNat).take (i.toNat + 1 + m - i.toNat)
      · simp only [if_pos e]
        refine ⟨c.1, ?_, ?_, ?_⟩
        · show i ≤ ((i.toNat + 1 + m : Nat) : Int); omega
        · show ((i.toNat + 1 + m : Nat) : Int) ≤ _; omega
        · show quote (L (S t)) = _
          rw [L_S, e, Int.toNat_natCast]
      · simp only [if_neg e] at h
        exact absurd h (by omega)
  · rw [if_neg c] at h
    exact absurd h (by show ¬ (-1 : Int) ≥ 0; omega)
def joinL (ls : List ByteArray) : B := ls.flatMap fun x => L x ++ [10]
theorem joinL_cut : ∀ (l p : B), joinL ((cutP 10 p l).map S) = p ++ l ++ [10]
  | [], p => by show L (S p) ++ [10] ++ [] = _; rw [L_S, List.append_nil, List.append_nil]
  | x :: l, p => by
    rw [cutP]
    by_cases h : x = 10
    · rw [if_pos h, List.map_cons]
      show L (S p) ++ [10] ++ joinL ((cutP 10 [] l).map S) = _
      rw [joinL_cut l [], L_S, h]; simp
    · rw [if_neg h, joinL_cut l (p ++ [x])]; simp
theorem cutP_count : ∀ (l p : B), (cutP 10 p l).length = l.count 10 + 1
  | [], p => rfl
  | x :: l, p => by
    rw [cutP]
    by_cases h : x = 10
    · rw [if_pos h, List.length_cons, cutP_count l [], h, List.count_cons_self]
    · rw [if_neg h, cutP_count l (p ++ [x]), List.count_cons_of_ne (by simpa using h)]
theorem linesL_is (s : ByteArray) (hs : s.size ≤ 1048576) : (joinL (linesL s) = L s ∨ joinL (linesL s) = L s ++ [10]) ∧ (L s).count 10 ≤ (linesL s).length := by
  have hc := cutP_count (L s) []
  have hj := joinL_cut (L s) []
  have hlen := (cutP_len 10 (L s) []).2
  rw [size_L] at hs
  unfold linesL
  generalize cutP 10 [] (L s) = t at hc hj hlen
  have hw : wrap64 (((t.map S).length : Int) - 1) = ((t.length - 1 : Nat) : Int) := by rw [List.length_map, w64 (by omega) (by omega)]; omega
  rw [hw, Int.toNat_natCast]
  by_cases h : (rdOf ByteArray.empty (t.map S) ((t.length - 1 : Nat) : Int)).toList = ([] : List UInt8)
  · rw [if_pos h]
    have hsplit : t.map S = (t.map S).take (t.length - 1) ++ [(t.map S).getD (t.length - 1) ByteArray.empty] := by
      have hlt : t.length - 1 < (t.map S).length := by rw [List.length_map]; omega
      have := List.take_succ_eq_append_getElem hlt
      rw [show t.length - 1 + 1 = (t.map S).length by rw [List.length_map]; omega, List.take_length] at this
      rw [List.getD_eq_getElem?_getD, List.getElem?_eq_getElem hlt]
      exact this
    have hlast : L ((t.map S).getD (t.length - 1) ByteArray.empty) = [] := by rw [← toList_L]; exact h
    refine ⟨.inl ?_, by rw [List.length_take, List.length_map]; omega⟩
    rw [hsplit] at hj
    have e2 : joinL ((t.map S).take (t.length - 1) ++ [(t.map S).getD (t.length - 1) ByteArray.empty]) = joinL ((t.map S).take (t.length - 1)) ++ [10] := by
      show List.flatMap _ (_ ++ _) = _
      rw [List.flatMap_append]
      show joinL _ ++ (L ((t.map S).getD (t.length - 1) ByteArray.empty) ++ [10] ++ []) = _
      rw [hlast]; rfl
    rw [e2, List.nil_append] at hj
    exact List.append_cancel_right hj
  · rw [if_neg h]
    exact ⟨.inr (by rw [hj]; rfl), by rw [List.length_map]; omega⟩
theorem place_line (s : ByteArray) (i : Int) (hs : s.size ≤ 1048576) : (place (L s) i).1 ≤ ((linesL s).length : Int) + 1 := by
  have h := (linesL_is s hs).2
  have hc : ((L s).take i.toNat).count 10 ≤ (L s).count 10 := (List.take_sublist _ _).count_le _
  unfold place
  split
  · show 1 + (((((L s).take i.toNat).count 10 : Nat)) : Int) ≤ _; omega
  · show (0 : Int) ≤ _; omega
end Go.Proofs.YtbfbomcfmgdpkaaGreatDoor.U

end
section
namespace Go.Proofs.YtbfbomcfmgdpkaaGreatDoor.U
open Go Go.RowKit
set_option linter.unusedVariables false
set_option linter.unusedSimpArgs false
def sg (s : Nat) : Nat := (s * 6364136223846793005 + 1442695040888963407) % 9007199254740992
def itf (f : Nat → Nat) : Nat → Nat → Nat
  | 0, s => s
  | n + 1, s => itf f n (f s)
theorem itf_add (f : Nat → Nat) : ∀ m n s, itf f (m + n) s = itf f n (itf f m s)
  | 0, n, s => by rw [Nat.zero_add]; rfl
  | m + 1, n, s => by rw [Nat.succ_add]; exact itf_add f m n (f s)
theorem itf_one (f : Nat → Nat) (n s : Nat) : itf f (n + 1) s = f (itf f n s) := by rw [itf_add]; rfl
def it (n s : Nat) : Nat := itf sg n s
theorem it_add (m n s : Nat) : it (m + n) s = it n (it m s) := itf_add sg m n s
theorem it_one (n s : Nat) : it (n + 1) s = sg (it n s) := itf_one sg n s
theorem itf_zero (f : Nat → Nat) (s : Nat) : itf f 0 s = s := rfl
theorem itf_next (f : Nat → Nat) (n s : Nat) : itf f (n + 1) s = itf f n (f s) := rfl
theorem it_next (n s : Nat) : it (n + 1) s = it n (sg s) := itf_next sg n s
theorem it_zero (s : Nat) : it 0 s = s := itf_zero sg s
theorem it_1 (s : Nat) : it 1 s = sg s := (it_next 0 s).trans (it_zero _)
theorem sg_lt (s : Nat) : sg s < 9007199254740992 := Nat.mod_lt _ (by decide)
def pw : Nat → Nat × Nat
  | 0 => (6364136223846793005 % 9007199254740992, 1442695040888963407 % 9007199254740992)
  | j + 1 => ((pw j).1 * (pw j).1 % 9007199254740992, ((pw j).2 * (pw j).1 + (pw j).2) % 9007199254740992)
def aff (p : Nat × Nat) (s : Nat) : Nat := (s * p.1 + p.2) % 9007199254740992
theorem aff_twice (p : Nat × Nat) (s M : Nat) : ((s * p.1 + p.2) % M * p.1 + p.2) % M = (s * (p.1 * p.1 % M) + (p.2 * p.1 + p.2) % M) % M := by
  have e : (s * p.1 + p.2) * p.1 + p.2 = s * (p.1 * p.1) + (p.2 * p.1 + p.2) := by rw [Nat.add_mul, Nat.mul_assoc, Nat.add_assoc]
  rw [Nat.add_mod, Nat.mod_mul_mod, ← Nat.add_mod, e, Nat.add_mod, Nat.add_mod (s * (p.1 * p.1 % M)), Nat.mul_mod_mod, Nat.mod_mod]
theorem pw0 (s : Nat) : sg s = aff (pw 0) s := by
  unfold sg aff pw
  simp only []
  omega
theorem it_pw (j : Nat) : ∀ s, it (2 ^ j) s = aff (pw j) s := by
  induction j with
  | zero => intro s; rw [Nat.pow_zero, it_1]; exact pw0 s
  | succ j ih =>
    intro s
    rw [Nat.pow_succ, Nat.mul_comm, Nat.two_mul, it_add, ih, ih]
    exact aff_twice (pw j) s 9007199254740992
theorem pw_succ {j a c x y : Nat} (h : pw j = (a, c)) (hx : a * a % 9007199254740992 = x) (hy : (c * a + c) % 9007199254740992 = y) : pw (j + 1) = (x, y) := by
  show ((pw j).1 * (pw j).1 % 9007199254740992, ((pw j).2 * (pw j).1 + (pw j).2) % 9007199254740992) = (x, y)
  rw [h]; simp only []; rw [hx, hy]
theorem pw45 : pw 45 = (3518437208883201, 175921860444160) := by
  have h0 : pw 0 = (5053549999652653, 1543160130404687) := rfl
  have h1 : pw 1 = (8893545856347625, 2513558822350130) := pw_succ h0 (by decide) (by decide)
  have h2 : pw 2 = (3723923786219025, 6222039650179508) := pw_succ h1 (by decide) (by decide)
  have h3 : pw 3 = (8402876825156897, 412927761213096) := pw_succ h2 (by decide) (by decide)
  have h4 : pw 4 = (8494674521800257, 8077273890007632) := pw_succ h3 (by decide) (by decide)
  have h5 : pw 5 = (2279854088686721, 334940883470496) := pw_succ h4 (by decide) (by decide)
  have h6 : pw 6 = (1666582322174209, 5999675586797888) := pw_succ h5 (by decide) (by decide)
  have h7 : pw 7 = (228747937296897, 6001844078510720) := pw_succ h6 (by decide) (by decide)
  have h8 : pw 8 = (2126514927395841, 5427765555037440) := pw_succ h7 (by decide) (by decide)
  have h9 : pw 9 = (7541893529782273, 5814478551517696) := pw_succ h8 (by decide) (by decide)
  have h10 : pw 10 = (5666581573898241, 209632069686272) := pw_succ h9 (by decide) (by decide)
  have h11 : pw 11 = (5095289834381313, 2172052359882752) := pw_succ h10 (by decide) (by decide)
  have h12 : pw 12 = (7988256871694337, 3310474618753024) := pw_succ h11 (by decide) (by decide)
  have h13 : pw 13 = (6764801299349505, 7371009239851008) := pw_succ h12 (by decide) (by decide)
  have h14 : pw 14 = (484980540637185, 2775706211794944) := pw_succ h13 (by decide) (by decide)
  have h15 : pw 15 = (4101305772670977, 83331719004160) := pw_succ h14 (by decide) (by decide)
  have h16 : pw 16 = (3839491708289025, 2219713640071168) := pw_succ h15 (by decide) (by decide)
  have h17 : pw 17 = (8240902577848321, 5896228647337984) := pw_succ h16 (by decide) (by decide)
  have h18 : pw 18 = (715083291295745, 8612463508717568) := pw_succ h17 (by decide) (by decide)
  have h19 : pw 19 = (1413673908174849, 4504951873601536) := pw_succ h18 (by decide) (by decide)
  have h20 : pw 20 = (2761377118683137, 3165999445573632) := pw_succ h19 (by decide) (by decide)
  have h21 : pw 21 = (5258871446700033, 970780194111488) := pw_succ h20 (by decide) (by decide)
  have h22 : pw 22 = (455012475994113, 7518283364302848) := pw_succ h21 (by decide) (by decide)
  have h23 : pw 23 = (5695099556069377, 1314661613961216) := pw_succ h22 (by decide) (by decide)
  have h24 : pw 24 = (3508899764240385, 1784898297790464) := pw_succ h23 (by decide) (by decide)
  have h25 : pw 25 = (2514199901110273, 192096875053056) := pw_succ h24 (by decide) (by decide)
  have h26 : pw 26 = (5028399802220545, 4887793377476608) := pw_succ h25 (by decide) (by decide)
  have h27 : pw 27 = (1049600349700097, 768387500212224) := pw_succ h26 (by decide) (by decide)
  have h28 : pw 28 = (2099200699400193, 1536775000424448) := pw_succ h27 (by decide) (by decide)
  have h29 : pw 29 = (4198401398800385, 3073550000848896) := pw_succ h28 (by decide) (by decide)
  have h30 : pw 30 = (8396802797600769, 6147100001697792) := pw_succ h29 (by decide) (by decide)
  have h31 : pw 31 = (7786406340460545, 3287000748654592) := pw_succ h30 (by decide) (by decide)
  have h32 : pw 32 = (6565613426180097, 6574001497309184) := pw_succ h31 (by decide) (by decide)
  have h33 : pw 33 = (4124027597619201, 4140803739877376) := pw_succ h32 (by decide) (by decide)
  have h34 : pw 34 = (8248055195238401, 8281607479754752) := pw_succ h33 (by decide) (by decide)
  have h35 : pw 35 = (7488911135735809, 7556015704768512) := pw_succ h34 (by decide) (by decide)
  have h36 : pw 36 = (5970623016730625, 6104832154796032) := pw_succ h35 (by decide) (by decide)
  have h37 : pw 37 = (2934046778720257, 3202465054851072) := pw_succ h36 (by decide) (by decide)
  have h38 : pw 38 = (5868093557440513, 6404930109702144) := pw_succ h37 (by decide) (by decide)
  have h39 : pw 39 = (2728987860140033, 3802660964663296) := pw_succ h38 (by decide) (by decide)
  have h40 : pw 40 = (5457975720280065, 7605321929326592) := pw_succ h39 (by decide) (by decide)
  have h41 : pw 41 = (1908752185819137, 6203444603912192) := pw_succ h40 (by decide) (by decide)
  have h42 : pw 42 = (3817504371638273, 3399689953083392) := pw_succ h41 (by decide) (by decide)
  have h43 : pw 43 = (7635008743276545, 6799379906166784) := pw_succ h42 (by decide) (by decide)
  have h44 : pw 44 = (6262818231812097, 4591560557592576) := pw_succ h43 (by decide) (by decide)
  have h45 : pw 45 = (3518437208883201, 175921860444160) := pw_succ h44 (by decide) (by decide)
  exact h45
theorem jump (s : Nat) (h : s < 9007199254740992) : it 35184372088832 s = (s + 35184372088832 * (100 * s + 5)) % 9007199254740992 := by
  have e : (35184372088832 : Nat) = 2 ^ 45 := by decide
  have := it_pw 45 s
  rw [← e, pw45] at this
  rw [this]
  unfold aff
  simp only []
  omega
theorem jumps (s : Nat) (h : s < 9007199254740992) : ∀ t, it (t * 35184372088832) s = (s + 35184372088832 * (t * (100 * s + 5))) % 9007199254740992 := by
  intro t
  induction t with
  | zero => rw [Nat.zero_mul, it_zero, Nat.zero_mul, Nat.mul_zero, Nat.add_zero, Nat.mod_eq_of_lt h]
  | succ t ih =>
    have e0 : (t + 1) * (100 * s + 5) = t * (100 * s + 5) + (100 * s + 5) := Nat.succ_mul _ _
    rw [Nat.succ_mul t 35184372088832, it_add, ih, jump _ (Nat.mod_lt _ (by decide)), e0]
    generalize t * (100 * s + 5) = X
    have hq := Nat.div_add_mod (s + 35184372088832 * X) 9007199254740992
    generalize (s + 35184372088832 * X) / 9007199254740992 = q at hq
    generalize (s + 35184372088832 * X) % 9007199254740992 = st at hq ⊢
    have e1 : st + 35184372088832 * (100 * st + 5) + 9007199254740992 * (q * 3518437208883201) = s + 35184372088832 * (X + (100 * s + 5)) + 9007199254740992 * (13743895347200 * X) := by omega
    have f1 := Nat.add_mul_mod_self_left (st + 35184372088832 * (100 * st + 5)) 9007199254740992 (q * 3518437208883201)
    have f2 := Nat.add_mul_mod_self_left (s + 35184372088832 * (X + (100 * s + 5))) 9007199254740992 (13743895347200 * X)
    rw [← f1, e1, f2]
theorem inv256 : ∀ d, d < 256 → d % 2 = 1 → ∃ v, v < 256 ∧ (d * v) % 256 = 1 := by decide +kernel
theorem reach (s u : Nat) (h : s < 9007199254740992) : ∃ m, it (3 * m) s = (s + 35184372088832 * u) % 9007199254740992 := by
  obtain ⟨v, hv, e⟩ := inv256 ((100 * s + 5) % 256) (Nat.mod_lt _ (by decide)) (by omega)
  refine ⟨171 * (u * v) * 35184372088832, ?_⟩
  rw [← Nat.mul_assoc, jumps s h]
  have e2 : (3 * (171 * (u * v)) * (100 * s + 5)) % 256 = u % 256 := by
    have e3 : 3 * (171 * (u * v)) * (100 * s + 5) = 513 * (u * ((100 * s + 5) * v)) := by
      rw [← Nat.mul_assoc 3 171, Nat.mul_assoc 513, Nat.mul_assoc u, Nat.mul_comm v]
    have e4 : ((100 * s + 5) * v) % 256 = 1 := by
      have a1 := Nat.mul_mod (100 * s + 5) v 256
      have a2 := Nat.mul_mod ((100 * s + 5) % 256) v 256
      rw [Nat.mod_mod] at a2
      rw [a1, ← a2]; exact e
    have e5 : (u * ((100 * s + 5) * v)) % 256 = u % 256 := by rw [Nat.mul_mod, e4, Nat.mul_one, Nat.mod_mod]
    rw [e3]; omega
  generalize 3 * (171 * (u * v)) * (100 * s + 5) = X at *
  omega
def bx (z : Nat) : Nat := (z / 8589934592 % 256) ^^^ (z / 35184372088832 % 256)
theorem bx_lt (z : Nat) : bx z < 256 := by
  have h := Nat.xor_lt_two_pow (x := z / 8589934592 % 256) (y := z / 35184372088832 % 256) (n := 8) (Nat.mod_lt _ (by decide)) (Nat.mod_lt _ (by decide))
  exact h
theorem bx_up (z u : Nat) : bx ((z + 35184372088832 * u) % 9007199254740992) = (z / 8589934592 % 256) ^^^ ((z / 35184372088832 + u) % 256) := by
  unfold bx
  have e1 : (z + 35184372088832 * u) % 9007199254740992 / 8589934592 % 256 = z / 8589934592 % 256 := by omega
  have e2 : (z + 35184372088832 * u) % 9007199254740992 / 35184372088832 % 256 = (z / 35184372088832 + u) % 256 := by omega
  rw [e1, e2]
theorem sg_up (z u : Nat) : sg ((z + 35184372088832 * u) % 9007199254740992) = (sg z + 35184372088832 * (45 * u)) % 9007199254740992 := by
  unfold sg; omega
theorem bx_up2 (z u : Nat) : bx (sg ((z + 35184372088832 * u) % 9007199254740992)) = (sg z / 8589934592 % 256) ^^^ ((sg z / 35184372088832 + 45 * u) % 256) := by
  rw [sg_up, bx_up]
theorem nodup_len {α : Type} [DecidableEq α] : ∀ (l m : List α), l.Nodup → (∀ x ∈ l, x ∈ m) → l.length ≤ m.length
  | [], m, _, _ => Nat.zero_le _
  | x :: l, m, h, hs => by
    have hx : x ∈ m := hs x (by simp)
    have h1 := List.nodup_cons.1 h
    have := nodup_len l (m.erase x) h1.2 fun y hy => by
      have hne : y ≠ x := fun e => h1.1 (e ▸ hy)
      exact (List.mem_erase_of_ne hne).2 (hs y (by simp [hy]))
    rw [List.length_erase_of_mem hx] at this
    have hp := List.length_pos_of_mem hx
    simp only [List.length_cons]; omega
theorem nodup_map {α β : Type} (f : α → β) : ∀ (l : List α), l.Nodup → (∀ x ∈ l, ∀ y ∈ l, f x = f y → x = y) → (l.map f).Nodup
  | [], _, _ => by simp
  | x :: l, h, hf => by
    have h1 := List.nodup_cons.1 h
    rw [List.map_cons, List.nodup_cons]
    refine ⟨fun hm => ?_, nodup_map f l h1.2 fun a ha b hb => hf a (by simp [ha]) b (by simp [hb])⟩
    obtain ⟨y, hy, e⟩ := List.mem_map.1 hm
    have := hf y (by simp [hy]) x (by simp) e
    exact h1.1 (this ▸ hy)
def dull (b : Nat) : Bool := b % 5 == 1 || b % 5 == 2
def dull0 (b : Nat) : Bool := dull b || b % 9 == 0
theorem n_dull : ((List.range 256).filter dull).length = 102 := by decide +kernel
theorem n_dull0 : ((List.range 256).filter dull0).length = 120 := by decide +kernel
theorem filter_both (p : Nat → Bool) : ∀ l : List Nat, (l.filter p).length + (l.filter fun u => !p u).length = l.length
  | [] => rfl
  | x :: l => by
    have := filter_both p l
    cases h : p x with
    | true => rw [List.filter_cons_of_pos h, List.filter_cons_of_neg (by rw [h]; simp), List.length_cons, List.length_cons]; omega
    | false => rw [List.filter_cons_of_neg (by rw [h]; simp), List.filter_cons_of_pos (by rw [h]; rfl), List.length_cons, List.length_cons]; omega
theorem xor_inj {x a b : Nat} (h : x ^^^ a = x ^^^ b) : a = b := by
  have := congrArg (x ^^^ ·) h
  simpa [← Nat.xor_assoc] using this
theorem few (p : Nat → Bool) (f : Nat → Nat) (l : List Nat) (hn : l.Nodup) (hl : ∀ u ∈ l, u < 256) (hlt : ∀ u, f u < 256) (hf : ∀ u v, u < 256 → v < 256 → f u = f v → u = v) (hp : ∀ u ∈ l, p (f u) = true) : l.length ≤ ((List.range 256).filter p).length := by
  have h1 := nodup_map f l hn fun x hx y hy => hf x y (hl x hx) (hl y hy)
  have h2 := nodup_len (l.map f) ((List.range 256).filter p) h1 fun y hy => by
    obtain ⟨x, hx, rfl⟩ := List.mem_map.1 hy
    exact List.mem_filter.2 ⟨List.mem_range.2 (hlt x), hp x hx⟩
  rwa [List.length_map] at h2
theorem two_good (x0 y0 x1 y1 : Nat) (h0 : x0 < 256) (h1 : x1 < 256) : ∃ u, dull0 (x0 ^^^ ((y0 + u) % 256)) = false ∧ dull (x1 ^^^ ((y1 + 45 * u) % 256)) = false := by
  apply Classical.byContradiction
  intro hno
  have hall : ∀ u, dull0 (x0 ^^^ ((y0 + u) % 256)) = true ∨ dull (x1 ^^^ ((y1 + 45 * u) % 256)) = true := fun u => by
    cases e1 : dull0 (x0 ^^^ ((y0 + u) % 256)) with
    | true => exact .inl rfl
    | false =>
      cases e2 : dull (x1 ^^^ ((y1 + 45 * u) % 256)) with
      | true => exact .inr rfl
      | false => exact absurd ⟨u, e1, e2⟩ hno
  have xlt : ∀ x w : Nat, x < 256 → x ^^^ (w % 256) < 256 := fun x w hx => Nat.xor_lt_two_pow (n := 8) hx (Nat.mod_lt _ (by decide))
  have q1 := few dull0 (fun u => x0 ^^^ ((y0 + u) % 256)) ((List.range 256).filter fun u => dull0 (x0 ^^^ ((y0 + u) % 256))) (List.nodup_range.filter _) (fun u hu => List.mem_range.1 (List.mem_filter.1 hu).1) (fun u => xlt _ _ h0)
    (fun u v hu hv e => by have := xor_inj e; omega) (fun u hu => (List.mem_filter.1 hu).2)
  have q2 := few dull (fun u => x1 ^^^ ((y1 + 45 * u) % 256)) ((List.range 256).filter fun u => !dull0 (x0 ^^^ ((y0 + u) % 256))) (List.nodup_range.filter _) (fun u hu => List.mem_range.1 (List.mem_filter.1 hu).1) (fun u => xlt _ _ h1)
    (fun u v hu hv e => by have := xor_inj e; omega) (fun u hu => by
      rcases hall u with h | h
      · have := (List.mem_filter.1 hu).2; rw [h] at this; cases this
      · exact h)
  rw [n_dull0] at q1
  rw [n_dull] at q2
  have := filter_both (fun u => dull0 (x0 ^^^ ((y0 + u) % 256))) (List.range 256)
  rw [List.length_range] at this
  omega
theorem one_good (x0 y0 : Nat) (h0 : x0 < 256) : ∃ u, dull (x0 ^^^ ((y0 + u) % 256)) = false := by
  obtain ⟨u, h, _⟩ := two_good x0 y0 0 0 h0 (by decide)
  refine ⟨u, ?_⟩
  unfold dull0 at h
  exact (Bool.or_eq_false_iff.1 h).1
theorem good3 (z : Nat) (hz : z < 9007199254740992) : ∃ m, dull (bx (it (3 * m) z)) = false := by
  obtain ⟨u, h⟩ := one_good (z / 8589934592 % 256) (z / 35184372088832) (Nat.mod_lt _ (by decide))
  obtain ⟨m, e⟩ := reach z u hz
  exact ⟨m, by rw [e, bx_up]; exact h⟩
theorem good2 (z : Nat) (hz : z < 9007199254740992) : ∃ n, dull0 (bx (it n z)) = false ∧ dull (bx (it (n + 1) z)) = false := by
  obtain ⟨u, h1, h2⟩ := two_good (z / 8589934592 % 256) (z / 35184372088832) (sg z / 8589934592 % 256) (sg z / 35184372088832) (Nat.mod_lt _ (by decide)) (Nat.mod_lt _ (by decide))
  obtain ⟨m, e⟩ := reach z u hz
  refine ⟨3 * m, by rw [e, bx_up]; exact h1, ?_⟩
  rw [it_one, e]
  rw [bx_up2]; exact h2
end Go.Proofs.YtbfbomcfmgdpkaaGreatDoor.U

end
section
namespace Go.Proofs.YtbfbomcfmgdpkaaGreatDoor.U
open Go Go.RowKit Go.Proofs.YtbfbomcfmgdpkaaGreatDoorW.PrintWords Go.Proofs.YtbfbomcfmgdpkaaGreatDoor.G
set_option linter.unusedVariables false
set_option linter.unusedSimpArgs false
theorem and255 (x : Int) : Go.bits .and .i64 x 255 = x % 256 := by
  have e : (BitVec.ofInt 64 x &&& BitVec.ofInt 64 255).toNat = (x % 256).toNat := by
    rw [BitVec.toNat_and, BitVec.toNat_ofInt, BitVec.toNat_ofInt]
    have e2 : ((255 : Int) % ((2 ^ 64 : Nat) : Int)).toNat = 2 ^ 8 - 1 := by decide
    rw [e2, Nat.and_two_pow_sub_one_eq_mod]
    omega
  show IntKind.i64.wrap ((BitVec.ofInt 64 x &&& BitVec.ofInt 64 255).toNat : Int) = _
  rw [e, IntKind.wrap_i64]; omega
theorem xor255 (x y : Int) : (Go.bits .xor .i64 x y) % 256 = (((x % 256).toNat ^^^ (y % 256).toNat : Nat) : Int) := by
  have hlt : (BitVec.ofInt 64 x ^^^ BitVec.ofInt 64 y).toNat < 18446744073709551616 := (BitVec.ofInt 64 x ^^^ BitVec.ofInt 64 y).isLt
  have e : (BitVec.ofInt 64 x ^^^ BitVec.ofInt 64 y).toNat % 256 = (x % 256).toNat ^^^ (y % 256).toNat := by
    rw [BitVec.toNat_xor, show (256 : Nat) = 2 ^ 8 from rfl, Nat.xor_mod_two_pow, BitVec.toNat_ofInt, BitVec.toNat_ofInt]
    congr 1 <;> omega
  show (IntKind.i64.wrap ((BitVec.ofInt 64 x ^^^ BitVec.ofInt 64 y).toNat : Int)) % 256 = _
  rw [← e, IntKind.wrap_i64]; omega
def nh (h : Int) : Int := wrap64 ((wrap64 (h * 6364136223846793005)) + 1442695040888963407)
def st (h : Int) : Nat := (h % 9007199254740992).toNat
theorem wm (n : Int) : wrap64 n % 9007199254740992 = n % 9007199254740992 := by unfold wrap64; omega
theorem st_nh (h : Int) : st (nh h) = sg (st h) := by
  have e1 : nh h % 9007199254740992 = ((h % 9007199254740992) * 6364136223846793005 + 1442695040888963407) % 9007199254740992 := by
    unfold nh
    rw [wm, Int.add_emod, wm, ← Int.add_emod, Int.add_emod, Int.mul_emod, ← Int.emod_emod_of_dvd (h) (Int.dvd_refl 9007199254740992), ← Int.mul_emod, ← Int.add_emod, Int.emod_emod_of_dvd _ (Int.dvd_refl _)]
  unfold st sg
  rw [e1]
  have h0 : 0 ≤ h % 9007199254740992 := Int.emod_nonneg _ (by decide)
  generalize h % 9007199254740992 = z at h0
  obtain ⟨n, rfl⟩ := Int.eq_ofNat_of_zero_le h0
  rw [Int.toNat_natCast]
  have e2 : (((n : Int) * 6364136223846793005 + 1442695040888963407) % 9007199254740992) = (((n * 6364136223846793005 + 1442695040888963407) % 9007199254740992 : Nat) : Int) := by omega
  rw [e2, Int.toNat_natCast]
theorem byte_bx (h : Int) : (Go.bits .and .i64 (Go.bits .xor .i64 (nh h / 8589934592) (nh h / 35184372088832)) 255) = (bx (sg (st h)) : Int) := by
  rw [and255, xor255, ← st_nh]
  unfold bx st
  congr 2 <;> omega
theorem byte_ok (l : List Int) (i h : Int) (hl : l.length ≤ 1099511627776) (h0 : 0 ≤ i) (hi : i ≤ l.length) :
    ∃ b i', spec_l01Byte.f l i h = some (b, i', nh h) ∧ 0 ≤ b ∧ b < 256 ∧ i ≤ i' ∧ i' ≤ l.length ∧ (i < l.length → i < i') ∧ (i = l.length → b = (bx (sg (st h)) : Int)) := by
  unfold spec_l01Byte.f
  by_cases hlt : i < (l.length : Int)
  · rw [if_pos hlt, if_pos h0, w64 (n := i + 1) (by omega) (by omega)]
    refine ⟨_, _, rfl, ?_, ?_, by omega, by omega, by omega, by omega⟩
    · rw [and255]; omega
    · rw [and255]; omega
  · rw [if_neg hlt]
    have hb := bx_lt (sg (st h))
    refine ⟨_, _, rfl, ?_, ?_, by omega, by omega, by omega, fun _ => byte_bx h⟩
    · rw [show (Go.bits .and .i64 (Go.bits .xor .i64 ((wrap64 ((wrap64 (h * 6364136223846793005)) + 1442695040888963407)) / 8589934592) ((wrap64 ((wrap64 (h * 6364136223846793005)) + 1442695040888963407)) / 35184372088832)) 255) = _ from byte_bx h]; omega
    · rw [show (Go.bits .and .i64 (Go.bits .xor .i64 ((wrap64 ((wrap64 (h * 6364136223846793005)) + 1442695040888963407)) / 8589934592) ((wrap64 ((wrap64 (h * 6364136223846793005)) + 1442695040888963407)) / 35184372088832)) 255) = _ from byte_bx h]; omega
theorem below_ok (l : List Int) (i h a : Int) (hl : l.length ≤ 1099511627776) (h0 : 0 ≤ i) (hi : i ≤ l.length) (ha : 1 ≤ a) (ha2 : a ≤ 256) :
    ∃ b i', spec_l01Below.f l i h a = some (b % a, i', nh h) ∧ 0 ≤ b ∧ b < 256 ∧ i ≤ i' ∧ i' ≤ l.length ∧ (i < l.length → i < i') ∧ (i = l.length → b = (bx (sg (st h)) : Int)) := by
  obtain ⟨b, i', e, b0, b1, r⟩ := byte_ok l i h hl h0 hi
  refine ⟨b, i', ?_, b0, b1, r⟩
  unfold spec_l01Below.f
  rw [if_neg (by omega), if_pos ha2, e, Option.bind_some, if_neg (by omega), Int.tmod_eq_emod_of_nonneg b0]
theorem below_any (l : List Int) (i h a : Int) (hl : l.length ≤ 1099511627776) (h0 : 0 ≤ i) (hi : i ≤ l.length) (ha2 : a ≤ 4611686018427387904) :
    ∃ r i' h', spec_l01Below.f l i h a = some (r, i', h') ∧ 0 ≤ r ∧ (0 < a → r < a) ∧ (a ≤ 0 → r = 0) ∧ 0 ≤ i' ∧ i' ≤ l.length := by
  by_cases ha : a ≤ 0
  · refine ⟨0, i, h, ?_, by omega, by omega, fun _ => rfl, h0, hi⟩
    unfold spec_l01Below.f; rw [if_pos ha]
  · by_cases hb : a ≤ 256
    · obtain ⟨b, i', e, b0, b1, r1, r2, _⟩ := below_ok l i h a hl h0 hi (by omega) hb
      exact ⟨_, _, _, e, Int.emod_nonneg _ (by omega), fun _ => Int.emod_lt_of_pos _ (by omega), by omega, by omega, r2⟩
    · obtain ⟨b1, i1, e1, p1, q1, r1, s1, _⟩ := byte_ok l i h hl h0 hi
      obtain ⟨b2, i2, e2, p2, q2, r2, s2, _⟩ := byte_ok l i1 (nh h) hl (by omega) s1
      obtain ⟨b3, i3, e3, p3, q3, r3, s3, _⟩ := byte_ok l i2 (nh (nh h)) hl (by omega) s2
      obtain ⟨b4, i4, e4, p4, q4, r4, s4, _⟩ := byte_ok l i3 (nh (nh (nh h))) hl (by omega) s3
      refine ⟨Int.tmod (wrap64 ((wrap64 ((wrap64 ((wrap64 (b1 * 16777216)) + (wrap64 (b2 * 65536)))) + (wrap64 (b3 * 256)))) + b4)) a, i4, nh (nh (nh (nh h))), ?_, ?_, ?_, by omega, by omega, s4⟩
      · unfold spec_l01Below.f
        rw [if_neg ha, if_neg hb, e1, Option.bind_some, e2, Option.bind_some, e3, Option.bind_some, e4, Option.bind_some, if_neg (by omega)]
      · rw [w64 (n := b1 * 16777216) (by omega) (by omega), w64 (n := b2 * 65536) (by omega) (by omega), w64 (n := b3 * 256) (by omega) (by omega), w64 (n := b1 * 16777216 + b2 * 65536) (by omega) (by omega), w64 (n := b1 * 16777216 + b2 * 65536 + b3 * 256) (by omega) (by omega), w64 (by omega) (by omega), Int.tmod_eq_emod_of_nonneg (by omega)]
        exact Int.emod_nonneg _ (by omega)
      · intro _
        rw [w64 (n := b1 * 16777216) (by omega) (by omega), w64 (n := b2 * 65536) (by omega) (by omega), w64 (n := b3 * 256) (by omega) (by omega), w64 (n := b1 * 16777216 + b2 * 65536) (by omega) (by omega), w64 (n := b1 * 16777216 + b2 * 65536 + b3 * 256) (by omega) (by omega), w64 (by omega) (by omega), Int.tmod_eq_emod_of_nonneg (by omega)]
        exact Int.emod_lt_of_pos _ (by omega)
theorem pick_any (l : List Int) (i h : Int) (q : List ByteArray) (hl : l.length ≤ 1099511627776) (h0 : 0 ≤ i) (hi : i ≤ l.length) (hq : 1 ≤ q.length) (hq2 : q.length ≤ 256) :
    ∃ r i' h', spec_l01Pick.f l i h q = some (r, i', h') ∧ r ∈ q ∧ 0 ≤ i' ∧ i' ≤ l.length := by
  obtain ⟨r, i', h', e, r0, r1, _, s0, s1⟩ := below_any l i h (q.length : Int) hl h0 hi (by omega)
  have hr := r1 (by omega)
  refine ⟨q.getD r.toNat ByteArray.empty, i', h', ?_, ?_, s0, s1⟩
  · unfold spec_l01Pick.f
    rw [e, Option.bind_some, if_pos r0, if_pos hr]; rfl
  · rw [List.getD_eq_getElem?_getD, List.getElem?_eq_getElem (by omega)]
    exact List.getElem_mem _
theorem once_any (l : List Int) (i h n : Int) (hl : l.length ≤ 1099511627776) (h0 : 0 ≤ i) (hi : i ≤ l.length) (hn : n ≤ 4611686018427387904) :
    ∃ r i' h', spec_l01Once.f l i h n = some (r, i', h') ∧ 0 ≤ i' ∧ i' ≤ l.length := by
  obtain ⟨r, i', h', e, _, _, _, s0, s1⟩ := below_any l i h n hl h0 hi hn
  exact ⟨_, i', h', by unfold spec_l01Once.f; rw [e]; rfl, s0, s1⟩
theorem new_any (l : List Int) (hl : l.length ≤ 1048576) : ∃ h, Ev (fun k => spec_l01New.f k l) (l, 0, h) := by
  have key : ∀ (d i : Nat) (h : Int), i + d = l.length → ∃ h', Ev (fun k => spec_l01New.l0 k l h (i : Int)) (l, 0, h') := by
    intro d
    induction d with
    | zero =>
      intro i h hi
      exact ⟨h, Ev.step (f := fun k => some (l, 0, h)) (fun k => by rw [spec_l01New.l0, if_neg (by omega)]) (Ev.now _)⟩
    | succ d ih =>
      intro i h hi
      by_cases h4 : (i : Int) < 4000
      · obtain ⟨h', e⟩ := ih (i + 1) (Go.bits .and .i64 (wrap64 ((wrap64 ((wrap64 (h * 131)) + (wrap64 (rd l (i : Int))))) + 7)) 1073741823) (by omega)
        exact ⟨h', Ev.step (fun k => by rw [spec_l01New.l0, if_pos (by omega), if_pos h4, if_pos (by omega), wa1 i (by omega)]) e⟩
      · exact ⟨h, Ev.step (f := fun k => some (l, 0, h)) (fun k => by rw [spec_l01New.l0, if_pos (by omega), if_neg h4]) (Ev.now _)⟩
  exact key l.length 0 _ (by omega)
def TDone (l : List Int) (n : Nat) (out : List Int) (i h : Int) : Prop :=
  ∃ t i' h', Ev (fun k => spec_l01Text.l0 k (n : Int) out l i h) (t, i', h') ∧ t.size = n ∧ 0 ≤ i' ∧ i' ≤ l.length
theorem t_full (l : List Int) (n : Nat) (out : List Int) (i h : Int) (hn : n ≤ out.length) (h0 : 0 ≤ i) (hi : i ≤ l.length) : TDone l n out i h := by
  refine ⟨strOfNums (out.take n), i, h, Ev.step (f := fun k => some (strOfNums (out.take n), i, h)) (fun k => by rw [spec_l01Text.l0, if_neg (by omega), if_pos (by omega), if_pos (by omega)]; rfl) (Ev.now _), ?_, h0, hi⟩
  rw [size_L]; simp [strOfNums, L, hn]
theorem t_fill (l : List Int) (n : Nat) (x7 x6 i h : Int) {r : ByteArray × Int × Int} : ∀ (d : Nat) (out : List Int) (x8 : Int), x6 - x8 = d → 0 ≤ x8 → x6 ≤ 100 → out.length ≤ 1000 - d →
    Ev (fun k => spec_l01Text.l0 k (n : Int) (out ++ List.replicate d x7) l i h) r → Ev (fun k => spec_l01Text.l1 k (n : Int) out x6 x7 x8 l i h) r
  | 0, out, x8, hd, h8, h6, hl, e => by
    rw [List.replicate_zero, List.append_nil] at e
    exact Ev.step (fun k => by rw [spec_l01Text.l1, if_neg (by omega)]) e
  | d + 1, out, x8, hd, h8, h6, hl, e => by
    have e2 : Ev (fun k => spec_l01Text.l0 k (n : Int) ((out ++ [x7]) ++ List.replicate d x7) l i h) r := by
      rw [List.append_assoc]; exact e
    exact Ev.step (fun k => by rw [spec_l01Text.l1, if_pos (by omega), if_pos (by omega), w64 (n := x8 + 1) (by omega) (by omega)]) (t_fill l n x7 x6 i h d (out ++ [x7]) (x8 + 1) (by omega) (by omega) h6 (by rw [List.length_append, List.length_singleton]; omega) e2)
theorem t_copy (l : List Int) (n : Nat) (x9 x10 i h : Int) (h9 : 0 ≤ x9) (h99 : x9 ≤ 1000) (h10 : x10 ≤ 100) : ∀ (d : Nat) (out : List Int) (x11 : Int), x10 - x11 = d → 0 ≤ x11 → x9 + x11 < out.length → out.length ≤ 1000 - d →
    ∃ out', out'.length = out.length + d ∧ (d = 0 → out' = out) ∧ ∀ r : ByteArray × Int × Int, Ev (fun k => spec_l01Text.l0 k (n : Int) out' l i h) r → Ev (fun k => spec_l01Text.l2 k (n : Int) out x9 x10 x11 l i h) r
  | 0, out, x11, hd, h11, hx, hl => ⟨out, rfl, fun _ => rfl, fun r e => Ev.step (fun k => by rw [spec_l01Text.l2, if_neg (by omega)]) e⟩
  | d + 1, out, x11, hd, h11, hx, hl => by
    obtain ⟨out', hlen, _, hE⟩ := t_copy l n x9 x10 i h h9 h99 h10 d (out ++ [rd out (x9 + x11)]) (x11 + 1) (by omega) (by omega) (by rw [List.length_append, List.length_singleton]; omega) (by rw [List.length_append, List.length_singleton]; omega)
    refine ⟨out', by rw [hlen, List.length_append, List.length_singleton]; omega, fun hd0 => by omega, fun r e => Ev.step (fun k => ?_) (hE r e)⟩
    rw [spec_l01Text.l2, if_pos (by omega), w64 (n := x9 + x11) (by omega) (by omega), if_pos hx, if_pos (by omega), if_pos (by omega), w64 (n := x11 + 1) (by omega) (by omega)]
theorem t_round (l : List Int) (n : Nat) (out : List Int) (i h : Int) (hl : l.length ≤ 1099511627776) (hn : n ≤ 100) (hlt : out.length < n) (h0 : 0 ≤ i) (hi : i ≤ l.length)
    (HP : ∀ (out' : List Int) (i' h' : Int), out.length < out'.length → 0 ≤ i' → i' ≤ l.length → TDone l n out' i' h') :
    ∃ b i1 : Int, 0 ≤ b ∧ b < 256 ∧ i ≤ i1 ∧ i1 ≤ l.length ∧ (i < l.length → i < i1) ∧ (i = l.length → b = (bx (sg (st h)) : Int)) ∧
      (b % 5 ≠ 1 → b % 5 ≠ 2 → TDone l n out i h) ∧
      (b % 5 = 2 → out = [] → TDone l n out i1 (nh h) → TDone l n out i h) ∧
      (b % 5 = 2 → out ≠ [] → (∀ i3 : Int, i1 ≤ i3 → i3 ≤ l.length → TDone l n out i3 (nh (nh (nh h)))) → TDone l n out i h) ∧
      (b % 5 = 1 → (∀ i3 : Int, i1 ≤ i3 → i3 ≤ l.length → (i = l.length → bx (sg (sg (st h))) % 9 = 0) → TDone l n out i3 (nh (nh (nh h)))) → TDone l n out i h) := by
  obtain ⟨b, i1, e5, b0, b1, r1, s1, p1, q1⟩ := below_ok l i h 5 hl h0 hi (by omega) (by omega)
  have hlt' : (out.length : Int) < (n : Int) := by omega
  refine ⟨b, i1, b0, b1, r1, s1, p1, q1, ?_, ?_, ?_, ?_⟩
  · intro n1 n2
    by_cases hb : b % 5 = 0
    · obtain ⟨b2, i2, eb, b20, b21, r2, s2, p2, q2⟩ := byte_ok l i1 (nh h) hl (by omega) s1
      obtain ⟨t, i', h', e, ht, hr⟩ := HP (out ++ [b2 % 256]) i2 (nh (nh h)) (by rw [List.length_append, List.length_singleton]; omega) (by omega) s2
      refine ⟨t, i', h', Ev.step (fun k => ?_) e, ht, hr⟩
      rw [spec_l01Text.l0, if_pos hlt', e5, Option.bind_some, if_pos hb, eb, Option.bind_some, if_pos (by omega)]
    · obtain ⟨b2, i2, eb, b20, b21, r2, s2, p2, q2⟩ := below_ok l i1 (nh h) 26 hl (by omega) s1 (by omega) (by omega)
      obtain ⟨t, i', h', e, ht, hr⟩ := HP (out ++ [(wrap64 (97 + b2 % 26)) % 256]) i2 (nh (nh h)) (by rw [List.length_append, List.length_singleton]; omega) (by omega) s2
      refine ⟨t, i', h', Ev.step (fun k => ?_) e, ht, hr⟩
      rw [spec_l01Text.l0, if_pos hlt', e5, Option.bind_some, if_neg hb, if_neg n1, if_neg n2, eb, Option.bind_some, if_pos (by omega)]
  · intro hb ho hT
    obtain ⟨t, i', h', e, ht, hr⟩ := hT
    refine ⟨t, i', h', Ev.step (fun k => ?_) e, ht, hr⟩
    subst ho
    rw [spec_l01Text.l0, if_pos hlt', e5, Option.bind_some, if_neg (by show ¬ b % 5 = 0; omega), if_neg (by show ¬ b % 5 = 1; omega), if_pos hb, if_neg (by decide)]
  · intro hb ho hT
    have hpos : 0 < out.length := List.length_pos_iff.2 ho
    obtain ⟨b2, i2, e2, b20, b21, r2, s2, p2, q2⟩ := below_ok l i1 (nh h) (out.length : Int) hl (by omega) s1 (by omega) (by omega)
    obtain ⟨b3, i3, e3, b30, b31, r3, s3, p3, q3⟩ := below_ok l i2 (nh (nh h)) 20 hl (by omega) s2 (by omega) (by omega)
    have hm : b2 % (out.length : Int) < out.length := Int.emod_lt_of_pos _ (by omega)
    have hm0 : 0 ≤ b2 % (out.length : Int) := Int.emod_nonneg _ (by omega)
    obtain ⟨out', hlen, hz0, hE⟩ := t_copy l n (b2 % (out.length : Int)) (b3 % 20) i3 (nh (nh (nh h))) hm0 (by omega) (by omega) (b3 % 20).toNat out 0 (by omega) (by omega) (by omega) (by omega)
    have hT2 : TDone l n out' i3 (nh (nh (nh h))) := by
      by_cases hz : (b3 % 20).toNat = 0
      · rw [hz0 hz]; exact hT i3 (by omega) s3
      · exact HP out' i3 _ (by omega) (by omega) s3
    obtain ⟨t, i', h', e, ht, hr⟩ := hT2
    refine ⟨t, i', h', Ev.step (fun k => ?_) (hE _ e), ht, hr⟩
    rw [spec_l01Text.l0, if_pos hlt', e5, Option.bind_some, if_neg (by show ¬ b % 5 = 0; omega), if_neg (by show ¬ b % 5 = 1; omega), if_pos hb, if_pos (by omega), e2, Option.bind_some, e3, Option.bind_some]
  · intro hb hT
    obtain ⟨b2, i2, e2, b20, b21, r2, s2, p2, q2⟩ := below_ok l i1 (nh h) 9 hl (by omega) s1 (by omega) (by omega)
    obtain ⟨b3, i3, e3, b30, b31, r3, s3, p3, q3⟩ := below_ok l i2 (nh (nh h)) 4 hl (by omega) s2 (by omega) (by omega)
    have hT2 : TDone l n (out ++ List.replicate (b2 % 9).toNat ((wrap64 (97 + b3 % 4)) % 256)) i3 (nh (nh (nh h))) := by
      by_cases hz : (b2 % 9).toNat = 0
      · rw [hz, List.replicate_zero, List.append_nil]
        refine hT i3 (by omega) s3 (fun hil => ?_)
        have := q2 (by omega)
        rw [st_nh] at this
        omega
      · exact HP (out ++ List.replicate (b2 % 9).toNat ((wrap64 (97 + b3 % 4)) % 256)) i3 _ (by rw [List.length_append, List.length_replicate]; omega) (by omega) s3
    obtain ⟨t, i', h', e, ht, hr⟩ := hT2
    refine ⟨t, i', h', Ev.step (fun k => ?_) (t_fill l n _ (b2 % 9) i3 (nh (nh (nh h))) (b2 % 9).toNat out 0 (by omega) (by omega) (by omega) (by omega) e), ht, hr⟩
    rw [spec_l01Text.l0, if_pos hlt', e5, Option.bind_some, if_neg (by show ¬ b % 5 = 0; omega), if_pos hb, e2, Option.bind_some, e3, Option.bind_some]
theorem dull_not {b : Int} {c : Nat} (e : b = (c : Int)) (h : dull c = false) : b % 5 ≠ 1 ∧ b % 5 ≠ 2 := by
  unfold dull at h
  simp only [Bool.or_eq_false_iff, beq_eq_false_iff_ne] at h
  omega
theorem dull0_dull {b : Nat} (h : dull0 b = false) : dull b = false := by unfold dull0 at h; exact (Bool.or_eq_false_iff.1 h).1
theorem t_some (l : List Int) (n : Nat) (out : List Int) (hl : l.length ≤ 1099511627776) (hn : n ≤ 100) (hlt : out.length < n) (ho : out ≠ [])
    (HP : ∀ (out' : List Int) (i' h' : Int), out.length < out'.length → 0 ≤ i' → i' ≤ l.length → TDone l n out' i' h') :
    ∀ (m : Nat) (h : Int), dull (bx (it (3 * m) (sg (st h)))) = false → TDone l n out (l.length : Int) h := by
  intro m
  induction m with
  | zero =>
    intro h hd
    obtain ⟨b, i1, b0, b1, r1, s1, p1, q1, c1, c2, c3, c4⟩ := t_round l n out (l.length : Int) h hl hn hlt (by omega) (by omega) HP
    rw [Nat.mul_zero, it_zero] at hd
    obtain ⟨n1, n2⟩ := dull_not (q1 rfl) hd
    exact c1 n1 n2
  | succ m ih =>
    intro h hd
    obtain ⟨b, i1, b0, b1, r1, s1, p1, q1, c1, c2, c3, c4⟩ := t_round l n out (l.length : Int) h hl hn hlt (by omega) (by omega) HP
    have hn3 : TDone l n out (l.length : Int) (nh (nh (nh h))) := by
      refine ih (nh (nh (nh h))) ?_
      rw [st_nh, st_nh, st_nh]
      rw [show 3 * (m + 1) = 3 * m + 1 + 1 + 1 by omega, it_next, it_next, it_next] at hd
      exact hd
    by_cases n1 : b % 5 = 1
    · exact c4 n1 (fun i3 h1 h2 _ => by rw [show i3 = (l.length : Int) by omega]; exact hn3)
    · by_cases n2 : b % 5 = 2
      · exact c3 n2 ho (fun i3 h1 h2 => by rw [show i3 = (l.length : Int) by omega]; exact hn3)
      · exact c1 n1 n2
theorem t_none (l : List Int) (n : Nat) (hl : l.length ≤ 1099511627776) (hn : n ≤ 100) (hlt : 0 < n)
    (HP : ∀ (out' : List Int) (i' h' : Int), 0 < out'.length → 0 ≤ i' → i' ≤ l.length → TDone l n out' i' h') (m : Nat) :
    ∀ (h : Int), dull0 (bx (it m (sg (st h)))) = false → dull (bx (it (m + 1) (sg (st h)))) = false → TDone l n [] (l.length : Int) h := by
  have first : ∀ h : Int, dull (bx (sg (st h))) = false → TDone l n [] (l.length : Int) h := by
    intro h hd
    obtain ⟨b, i1, b0, b1, r1, s1, p1, q1, c1, c2, c3, c4⟩ := t_round l n [] (l.length : Int) h hl hn hlt (by omega) (by omega) HP
    obtain ⟨n1, n2⟩ := dull_not (q1 rfl) hd
    exact c1 n1 n2
  induction m using Nat.strongRecOn with
  | ind m ih =>
    intro h g1 g2
    obtain ⟨b, i1, b0, b1, r1, s1, p1, q1, c1, c2, c3, c4⟩ := t_round l n [] (l.length : Int) h hl hn hlt (by omega) (by omega) HP
    have hi1 : i1 = (l.length : Int) := by omega
    subst hi1
    by_cases n2 : b % 5 = 2
    · refine c2 n2 rfl ?_
      by_cases m0 : m = 0
      · rw [m0, it_zero] at g1
        exact absurd n2 (dull_not (q1 rfl) (dull0_dull g1)).2
      · obtain ⟨j, hj⟩ : ∃ j, m = j + 1 := ⟨m - 1, by omega⟩
        rw [hj, it_next] at g1 g2
        rw [hj] at ih
        exact ih j (by omega) (nh h) (by rw [st_nh]; exact g1) (by rw [st_nh]; exact g2)
    · by_cases n1 : b % 5 = 1
      · refine c4 n1 (fun i3 h1 h2 h9 => ?_)
        rw [show i3 = (l.length : Int) by omega]
        have h9 := h9 rfl
        by_cases m0 : m = 0
        · rw [m0, it_zero] at g1
          exact absurd n1 (dull_not (q1 rfl) (dull0_dull g1)).1
        · by_cases m1 : m = 1
          · rw [m1, it_1] at g1
            unfold dull0 at g1
            rw [h9] at g1
            simp at g1
          · by_cases m2 : m = 2
            · refine first _ ?_
              rw [st_nh, st_nh, st_nh]
              rw [m2, show 2 + 1 = 0 + 1 + 1 + 1 from rfl, it_next, it_next, it_next, it_zero] at g2
              exact g2
            · obtain ⟨j, hj⟩ : ∃ j, m = j + 1 + 1 + 1 := ⟨m - 3, by omega⟩
              rw [hj, it_next, it_next, it_next] at g1
              rw [hj, it_next, it_next, it_next] at g2
              rw [hj] at ih
              exact ih j (by omega) (nh (nh (nh h))) (by rw [st_nh, st_nh, st_nh]; exact g1) (by rw [st_nh, st_nh, st_nh]; exact g2)
      · exact c1 n1 n2
theorem t_all (l : List Int) (n : Nat) (hl : l.length ≤ 1099511627776) (hn : n ≤ 100) : ∀ (d : Nat) (out : List Int) (i h : Int), n - out.length = d → 0 ≤ i → i ≤ l.length → TDone l n out i h := by
  intro d
  induction d using Nat.strongRecOn with
  | ind d ih =>
    intro out i h hd h0 hi
    by_cases hfull : n ≤ out.length
    · exact t_full l n out i h hfull h0 hi
    · have HP : ∀ (out' : List Int) (i' h' : Int), out.length < out'.length → 0 ≤ i' → i' ≤ l.length → TDone l n out' i' h' := fun out' i' h' hlen a c => ih (n - out'.length) (by omega) out' i' h' rfl a c
      have atEnd : ∀ h : Int, TDone l n out (l.length : Int) h := by
        intro h
        by_cases ho : out = []
        · subst ho
          obtain ⟨m, g1, g2⟩ := good2 (sg (st h)) (sg_lt _)
          exact t_none l n hl hn (by simp at hfull; omega) HP m h g1 g2
        · obtain ⟨m, g⟩ := good3 (sg (st h)) (sg_lt _)
          exact t_some l n out hl hn (by omega) ho HP m h g
      have key : ∀ (e : Nat) (i h : Int), ((l.length : Int) - i).toNat = e → 0 ≤ i → i ≤ l.length → TDone l n out i h := by
        intro e
        induction e using Nat.strongRecOn with
        | ind e ih2 =>
          intro i h he h0 hi
          by_cases hE : i = (l.length : Int)
          · rw [hE]; exact atEnd h
          · obtain ⟨b, i1, b0, b1, r1, s1, p1, q1, c1, c2, c3, c4⟩ := t_round l n out i h hl hn (by omega) h0 hi HP
            have p1 := p1 (by omega)
            have nxt : ∀ (i3 h3 : Int), i1 ≤ i3 → i3 ≤ l.length → TDone l n out i3 h3 := fun i3 h3 a c => ih2 (((l.length : Int) - i3).toNat) (by omega) i3 h3 rfl (by omega) c
            by_cases n1 : b % 5 = 1
            · exact c4 n1 (fun i3 a c _ => nxt i3 _ a c)
            · by_cases n2 : b % 5 = 2
              · by_cases ho : out = []
                · exact c2 n2 ho (nxt i1 _ (by omega) s1)
                · exact c3 n2 ho (fun i3 a c => nxt i3 _ a c)
              · exact c1 n1 n2
      exact key _ i h rfl h0 hi
theorem text_any (l : List Int) (i h n : Int) (hl : l.length ≤ 1099511627776) (h0 : 0 ≤ i) (hi : i ≤ l.length) (hn0 : 0 ≤ n) (hn : n ≤ 100) :
    ∃ t i' h', Ev (fun k => spec_l01Text.f k l i h n) (t, i', h') ∧ (t.size : Int) = n ∧ 0 ≤ i' ∧ i' ≤ l.length := by
  obtain ⟨t, i', h', e, ht, hr⟩ := t_all l n.toNat hl (by omega) _ [] i h rfl h0 hi
  refine ⟨t, i', h', ?_, by omega, hr⟩
  rw [show ((n.toNat : Nat) : Int) = n by omega] at e
  exact e
end Go.Proofs.YtbfbomcfmgdpkaaGreatDoor.U

end
section
namespace Go.Proofs.YtbfbomcfmgdpkaaGreatDoor.U
open Go Go.RowKit
set_option linter.unusedVariables false
def val10 (a : Nat) : B → Nat
  | [] => a
  | c :: l => val10 (a * 10 + (c.toNat - 48)) l
theorem val10_append : ∀ (l m : B) (a : Nat), val10 a (l ++ m) = val10 (val10 a l) m
  | [], m, a => rfl
  | c :: l, m, a => by rw [List.cons_append]; exact val10_append l m _
def dgt (c : UInt8) : Bool := decide (48 ≤ c.toNat ∧ c.toNat ≤ 57)
theorem dgt_is (c : UInt8) : dgt c = true ↔ 48 ≤ c.toNat ∧ c.toNat ≤ 57 := by unfold dgt; exact decide_eq_true_iff
theorem dgt_of (i : Nat) (h : i < 10) : (UInt8.ofNat (48 + i)).toNat = 48 + i := by rw [UInt8.toNat_ofNat']; omega
theorem decDigits_step (u : Nat) (h : ¬ u < 10) : Lib.decDigits u = Lib.decDigits (u / 10) ++ [UInt8.ofNat (48 + u % 10)] := by
  conv => lhs; unfold Lib.decDigits
  rw [dif_neg h]
theorem dec_digits : ∀ (n u : Nat), u < n → (∀ c ∈ Lib.decDigits u, dgt c = true) ∧ val10 0 (Lib.decDigits u) = u := by
  intro n
  induction n with
  | zero => intro u h; omega
  | succ n ih =>
    intro u hu
    by_cases h : u < 10
    · rw [Lib.decDigits_one h]
      refine ⟨fun c hc => ?_, ?_⟩
      · rw [List.mem_singleton] at hc; subst hc; rw [dgt_is, dgt_of u h]; omega
      · show 0 * 10 + ((UInt8.ofNat (48 + u)).toNat - 48) = u
        rw [dgt_of u h]; omega
    · rw [decDigits_step u h]
      obtain ⟨h1, h2⟩ := ih (u / 10) (by omega)
      refine ⟨fun c hc => ?_, ?_⟩
      · rw [List.mem_append, List.mem_singleton] at hc
        rcases hc with hc | rfl
        · exact h1 c hc
        · rw [dgt_is, dgt_of _ (Nat.mod_lt _ (by decide))]; omega
      · rw [val10_append, h2]
        show (u / 10) * 10 + ((UInt8.ofNat (48 + u % 10)).toNat - 48) = u
        rw [dgt_of _ (Nat.mod_lt _ (by decide))]; omega
theorem dec_dgt (u : Nat) : ∀ c ∈ Lib.decDigits u, dgt c = true := (dec_digits (u + 1) u (by omega)).1
theorem dec_val (u : Nat) : val10 0 (Lib.decDigits u) = u := (dec_digits (u + 1) u (by omega)).2
theorem dec_ne (u : Nat) : Lib.decDigits u ≠ [] := by
  intro h
  have := Lib.decDigits_length u
  rw [h] at this
  have := Lib.nDigits_pos u
  simp at *; omega
theorem dec_len_lt (u d : Nat) (h : (Lib.decDigits u).length ≤ d) : u < 10 ^ d := by
  rw [Lib.decDigits_length] at h
  exact Nat.lt_of_lt_of_le (Lib.lt_pow_nDigits u) (Nat.pow_le_pow_right (by decide) h)
theorem dec_len_le : ∀ (d u : Nat), u < 10 ^ (d + 1) → (Lib.decDigits u).length ≤ d + 1 := by
  intro d
  induction d with
  | zero => intro u h; rw [Lib.decDigits_one (by omega)]; simp
  | succ d ih =>
    intro u h
    by_cases h1 : u < 10
    · rw [Lib.decDigits_one h1]; simp
    · rw [decDigits_step u h1, List.length_append]
      have := ih (u / 10) (by rw [Nat.div_lt_iff_lt_mul (by decide)]; rw [Nat.pow_succ] at h; exact h)
      simp; omega
theorem val10_lt : ∀ (l : B) (a : Nat), (∀ c ∈ l, dgt c = true) → val10 a l < (a + 1) * 10 ^ l.length
  | [], a, _ => by rw [List.length_nil, Nat.pow_zero]; show a < (a + 1) * 1; omega
  | c :: l, a, h => by
    have hc := (dgt_is c).1 (h c (by simp))
    have := val10_lt l (a * 10 + (c.toNat - 48)) fun x hx => h x (by simp [hx])
    refine Nat.lt_of_lt_of_le this ?_
    rw [List.length_cons, Nat.pow_succ, Nat.mul_comm (10 ^ l.length) 10, ← Nat.mul_assoc]
    exact Nat.mul_le_mul_right _ (by omega)
theorem val10_ge : ∀ (l : B) (a : Nat), a ≤ val10 a l
  | [], a => Nat.le_refl _
  | c :: l, a => Nat.le_trans (by omega) (val10_ge l (a * 10 + (c.toNat - 48)))
def rdec (l : B) : Int := if l.length ≤ 9 ∧ Lib.decDigits (val10 0 l) = l then (val10 0 l : Int) else -1
theorem p9 : (10 : Nat) ^ 9 = 1000000000 := by decide
theorem rdec_dec (u : Nat) (h : u < 1000000000) : rdec (Lib.decDigits u) = u := by
  unfold rdec
  have h9 : (Lib.decDigits u).length ≤ 9 := dec_len_le 8 u (by rw [show 8 + 1 = 9 from rfl, p9]; exact h)
  rw [dec_val, if_pos ⟨h9, rfl⟩]
theorem rdec_some {l : B} (h : ¬ rdec l = -1) : ∃ u : Nat, u < 1000000000 ∧ l = Lib.decDigits u ∧ rdec l = u := by
  unfold rdec at h ⊢
  by_cases hc : l.length ≤ 9 ∧ Lib.decDigits (val10 0 l) = l
  · refine ⟨val10 0 l, ?_, hc.2.symm, by rw [if_pos hc]⟩
    rw [← p9]; exact dec_len_lt _ 9 (by rw [hc.2]; exact hc.1)
  · rw [if_neg hc] at h; exact absurd rfl h
theorem parse_digits : ∀ (l : B) (a : Nat), (∀ c ∈ l, dgt c = true) → val10 a l < 1844674407370955161 → Lib.parseUint10 a l = .ok (val10 a l)
  | [], a, _, _ => rfl
  | c :: l, a, h, hv => by
    have hc := (dgt_is c).1 (h c (by simp))
    have hg := val10_ge l (a * 10 + (c.toNat - 48))
    have hv' : val10 (a * 10 + (c.toNat - 48)) l < 1844674407370955161 := hv
    unfold Lib.parseUint10
    rw [if_pos hc, if_neg (by omega), if_neg (by omega)]
    exact parse_digits l _ (fun x hx => h x (by simp [hx])) hv'
theorem atoi_dec (u : Nat) (h : u < 1000000000) : Lib.atoiAll (Lib.decDigits u) = .ok (u : Int) := by
  have hd := dec_dgt u
  have hv := dec_val u
  have hne := dec_ne u
  generalize Lib.decDigits u = l at *
  cases l with
  | nil => exact absurd rfl hne
  | cons c r =>
    have hc := (dgt_is c).1 (hd c (by simp))
    have hp : Lib.parseMag (c :: r) = .ok u := by
      unfold Lib.parseMag
      rw [if_neg (by simp), parse_digits _ _ hd (by omega), hv]
    unfold Lib.atoiAll
    simp only []
    rw [if_neg (by omega), hp]
    simp only []
    rw [if_neg (by omega), if_neg (by omega), if_neg (by omega)]
end Go.Proofs.YtbfbomcfmgdpkaaGreatDoor.U

end
section
namespace Go.Proofs.YtbfbomcfmgdpkaaGreatDoor.U
open Go Go.RowKit Go.Proofs.YtbfbomcfmgdpkaaGreatDoorW.PrintWords Go.Proofs.YtbfbomcfmgdpkaaGreatDoor.G
set_option linter.unusedVariables false
def digits0 : ByteArray := ⟨#[48, 49, 50, 51, 52, 53, 54, 55, 56, 57]⟩
theorem digit_at (i : Nat) (h : i < 10) : digits0.extract i (i + 1) = S [UInt8.ofNat (48 + i)] := by
  apply L_inj
  rw [L_extract, L_S]
  have : ∀ j : Fin 10, ((L digits0).drop j.1).take (j.1 + 1 - j.1) = [UInt8.ofNat (48 + j.1)] := by decide
  exact this ⟨i, h⟩
def dig (u : Nat) : B := if u = 0 then [] else Lib.decDigits u
theorem dig_step (u : Nat) (h : u ≠ 0) : dig u = dig (u / 10) ++ [UInt8.ofNat (48 + u % 10)] := by
  unfold dig
  rw [if_neg h]
  by_cases h1 : u < 10
  · rw [if_pos (by omega)]
    unfold Lib.decDigits
    rw [dif_pos h1, Nat.mod_eq_of_lt h1]; rfl
  · rw [if_neg (by omega)]
    conv => lhs; unfold Lib.decDigits
    rw [dif_neg h1]
theorem dec_arith (x4 : Int) (u : Nat) (h4 : x4.natAbs = u) (hlo : -9223372036854775808 ≤ x4) (hhi : x4 ≤ 9223372036854775807) :
    (Int.tdiv x4 10).natAbs = u / 10 ∧ (Int.tmod x4 10).natAbs = u % 10 ∧ -922337203685477580 ≤ Int.tdiv x4 10 ∧ Int.tdiv x4 10 ≤ 922337203685477580 := by
  have hd : (Int.tdiv x4 10).natAbs = u / 10 := by rw [Int.natAbs_tdiv, h4]; rfl
  have hm : (Int.tmod x4 10).natAbs = u % 10 := by rw [Int.natAbs_tmod, h4]; rfl
  refine ⟨hd, hm, ?_, ?_⟩ <;> omega
theorem dec_idx (t : Int) (v : Nat) (hv : v < 10) (hm : t.natAbs = v) (hn : t < 0) : wrap64 (-t) = (v : Int) := by rw [w64 (by omega) (by omega)]; omega
theorem dec_end (x0 : Int) (x3 : ByteArray) (h : x3.size ≤ 40) (k : Nat) : spec_DecText.l0 (k + 1) x0 x3 0 = some (S ((if x0 < 0 then [45] else []) ++ (dig 0 ++ L x3))) := by
  rw [spec_DecText.l0, if_pos rfl]
  by_cases hn : x0 < 0
  · rw [if_pos hn, if_pos hn, if_pos (by omega)]; rfl
  · rw [if_neg hn, if_neg hn]; rfl
theorem dec_go (x0 x4 t q : Int) (x3 : ByteArray) (v : Nat) (hv : v < 10) (hx : ¬ x4 = 0) (hT : Int.tmod x4 10 = t) (hQ : Int.tdiv x4 10 = q) (hq : wrap64 q = q) (hm : t.natAbs = v) (h3 : x3.size ≤ 40) (k : Nat) :
    spec_DecText.l0 (k + 1) x0 x3 x4 = spec_DecText.l0 k x0 (S [UInt8.ofNat (48 + v)] ++ x3) q := by
  have hone : (S [UInt8.ofNat (48 + v)]).size = 1 := by rw [size_S]; rfl
  have e2 : wrap64 ((v : Int) + 1) = ((v + 1 : Nat) : Int) := wa1 _ (by omega)
  have e3 := digit_at v hv
  unfold digits0 at e3
  have b1 : (0 : Int) ≤ (v : Int) := by omega
  have b2 : (v : Int) ≤ ((v + 1 : Nat) : Int) := by omega
  have b3 : ((v + 1 : Nat) : Int) ≤ 10 := by omega
  have b4 : (S [UInt8.ofNat (48 + v)]).size + x3.size ≤ 9223372036854775807 := by rw [hone]; omega
  rw [spec_DecText.l0, if_neg hx, hT, hQ, hq]
  by_cases hn : t < 0
  · rw [if_pos hn, dec_idx t v hv hm hn, e2, if_pos b1, if_pos b2, if_pos b3, Int.toNat_natCast, Int.toNat_natCast, e3, if_pos b4]
  · have e1 : t = (v : Int) := by omega
    rw [if_neg hn, e1, e2, if_pos b1, if_pos b2, if_pos b3, Int.toNat_natCast, Int.toNat_natCast, e3, if_pos b4]
theorem spec_DecText_l (x0 : Int) : ∀ d (u : Nat) (x4 : Int) (x3 : ByteArray), u < 10 ^ d → x4.natAbs = u → -9223372036854775808 ≤ x4 → x4 ≤ 9223372036854775807 → x3.size + d ≤ 40 →
    Ev (fun k => spec_DecText.l0 k x0 x3 x4) (S ((if x0 < 0 then [45] else []) ++ (dig u ++ L x3))) := by
  intro d
  induction d with
  | zero =>
    intro u x4 x3 hu h4 _ _ hs
    have e2 : u = 0 := by simpa using hu
    subst e2
    have e : x4 = 0 := Int.natAbs_eq_zero.1 h4
    subst e
    exact Ev.step (f := fun _ => some _) (dec_end x0 x3 (by omega)) (Ev.now _)
  | succ d ih =>
    intro u x4 x3 hu h4 hlo hhi hs
    by_cases hz : u = 0
    · subst hz
      have e : x4 = 0 := Int.natAbs_eq_zero.1 h4
      subst e
      exact Ev.step (f := fun _ => some _) (dec_end x0 x3 (by omega)) (Ev.now _)
    · have hx : ¬ x4 = 0 := fun e => hz (by rw [← h4, e]; rfl)
      obtain ⟨hd, hm, q1, q2⟩ := dec_arith x4 u h4 hlo hhi
      have h10 : u / 10 < 10 ^ d := by rw [Nat.div_lt_iff_lt_mul (by decide)]; rw [Nat.pow_succ] at hu; exact hu
      have hone : (S [UInt8.ofNat (48 + u % 10)]).size = 1 := by rw [size_S]; rfl
      clear hu h4
      rw [dig_step u hz]
      refine Ev.step (dec_go x0 x4 _ _ x3 (u % 10) (Nat.mod_lt _ (by decide)) hx rfl rfl (w64 (by omega) (by omega)) hm (by omega)) ?_
      refine ev_use (ih (u / 10) _ (S [UInt8.ofNat (48 + u % 10)] ++ x3) h10 hd (by omega) (by omega) (by rw [ByteArray.size_append, hone]; omega)) ?_
      rw [L_append, L_S]; simp
theorem itoa_dig (n : Int) (h : n ≠ 0) : Lib.itoa n = (if n < 0 then [45] else []) ++ dig n.natAbs := by
  unfold Lib.itoa dig
  by_cases hn : n < 0
  · rw [if_pos hn, if_pos hn, if_neg (by omega)]; rfl
  · rw [if_neg hn, if_neg hn, if_neg (by omega)]
    have : n.toNat = n.natAbs := by omega
    rw [this]; rfl
theorem spec_DecText_ev (n : Int) (h0 : -9223372036854775808 ≤ n) (h1 : n ≤ 9223372036854775807) : Ev (fun k => spec_DecText.f k n) (S (Lib.itoa n)) := by
  unfold spec_DecText.f
  by_cases h : n = 0
  · subst h; refine ev_pos rfl (ev_use (Ev.now _) ?_)
    apply L_inj; rw [L_S]; unfold Lib.itoa; rw [if_neg (by omega)]; unfold Lib.decDigits; rw [dif_pos (by decide)]; rfl
  · refine ev_neg h ?_
    rw [itoa_dig n h]
    refine ev_use (spec_DecText_l n 20 n.natAbs n ⟨#[]⟩ (by omega) rfl h0 h1 (by decide)) ?_
    congr 1
    show _ ++ (_ ++ ([] : B)) = _
    rw [List.append_nil]
theorem impl_DecText_eq (n : Int) (h0 : -9223372036854775808 ≤ n) (h1 : n ≤ 9223372036854775807) : impl_DecText.f n = some (S (Lib.itoa n)) := by
  unfold impl_DecText.f strconv_Itoa.f
  rw [if_pos ⟨h0, h1⟩]; rfl
end Go.Proofs.YtbfbomcfmgdpkaaGreatDoor.U

end
section
namespace Go.Proofs.YtbfbomcfmgdpkaaGreatDoor.U
open Go Go.RowKit Go.Proofs.YtbfbomcfmgdpkaaGreatDoorW.PrintWords Go.Proofs.YtbfbomcfmgdpkaaGreatDoor.G
set_option linter.unusedVariables false
set_option linter.unusedSimpArgs false
theorem itoa_nat (u : Nat) : Lib.itoa (u : Int) = Lib.decDigits u := by unfold Lib.itoa; rw [if_neg (by omega)]; simp
theorem rdec_bad {l : B} (h : ∃ c ∈ l, dgt c = false) : rdec l = -1 := by
  unfold rdec
  rw [if_neg]
  rintro ⟨_, e⟩
  obtain ⟨c, hc, hd⟩ := h
  have := dec_dgt (val10 0 l) c (by rw [e]; exact hc)
  rw [hd] at this; cases this
theorem rdec_long {l : B} (h : 9 < l.length) : rdec l = -1 := by
  unfold rdec
  rw [if_neg]
  rintro ⟨e, _⟩; omega
theorem impl_ReadDec_eq (s : ByteArray) (hs : s.size ≤ 1099511627776) : impl_ReadDec.f s = some (rdec (L s)) := by
  unfold impl_ReadDec.f
  rw [if_pos (by omega)]
  show (match Lib.atoiAll (L s) with | .ok n => _ | _ => some (-1)) = _
  by_cases hr : rdec (L s) = -1
  · rw [hr]
    cases ha : Lib.atoiAll (L s) with
    | ok n =>
      simp only []
      rw [impl_within_eq, Option.bind_some]
      by_cases hn : 0 ≤ n ∧ n ≤ 999999999
      · rw [if_pos (decide_eq_true hn), impl_DecText_eq n (by omega) (by omega), Option.bind_some, toList_S, toList_L]
        by_cases e : Lib.itoa n = L s
        · exfalso
          have hu : n = ((n.toNat : Nat) : Int) := by omega
          rw [hu, itoa_nat] at e
          rw [← e, rdec_dec _ (by omega)] at hr
          omega
        · rw [if_neg e]
      · rw [if_neg (by simpa using hn)]
    | _ => rfl
  · obtain ⟨u, hu, hl, hv⟩ := rdec_some hr
    rw [hv, hl, atoi_dec u hu]
    simp only []
    rw [impl_within_eq, Option.bind_some, if_pos (decide_eq_true (by omega)), impl_DecText_eq _ (by omega) (by omega), Option.bind_some, toList_S, toList_L, hl, itoa_nat, if_pos rfl]
theorem step10 (a : Nat) (c : UInt8) (ha : a < 1000000000) (hc : dgt c = true) : wrap64 ((wrap64 ((wrap64 (10 * (a : Int))) + (wrap64 (c.toNat : Int)))) - 48) = ((a * 10 + (c.toNat - 48) : Nat) : Int) := by
  have h := (dgt_is c).1 hc
  rw [w64 (n := 10 * (a : Int)) (by omega) (by omega), w64 (n := (c.toNat : Int)) (by omega) (by omega), w64 (n := 10 * (a : Int) + (c.toNat : Int)) (by omega) (by omega), w64 (by omega) (by omega)]
  omega
theorem spec_ReadDec_ev (s : ByteArray) (hs : s.size ≤ 1099511627776) : Ev (fun k => spec_ReadDec.f k s) (rdec (L s)) := by
  have hsz := size_L s
  have key : ∀ (d i : Nat), i + d = (L s).length → i ≤ 9 → (∀ c ∈ (L s).take i, dgt c = true) → Ev (fun k => spec_ReadDec.l0 k s (val10 0 ((L s).take i) : Int) (i : Int)) (rdec (L s)) := by
    intro d
    induction d with
    | zero =>
      intro i hi h9 hall
      have e : (L s).take i = L s := List.take_of_length_le (by omega)
      rw [e] at hall ⊢
      have hlt : val10 0 (L s) < 1000000000 := by
        have := val10_lt (L s) 0 hall
        have h2 : 10 ^ (L s).length ≤ 10 ^ 9 := Nat.pow_le_pow_right (by decide) (by omega)
        rw [p9] at h2; omega
      have hd := spec_DecText_ev ((val10 0 (L s) : Nat) : Int) (by omega) (by omega)
      rw [itoa_nat] at hd
      refine Ev.step (f := fun k => if s.toList = ([] : List UInt8) then some (-1) else (spec_DecText.f k ((val10 0 (L s) : Nat) : Int)).bind fun t => if t.toList = s.toList then some ((val10 0 (L s) : Nat) : Int) else some (-1)) (fun k => by rw [spec_ReadDec.l0, if_neg (by omega)]) ?_
      rw [toList_L]
      unfold rdec
      by_cases h0 : L s = []
      · refine ev_pos h0 (ev_use (Ev.now _) ?_)
        rw [if_neg]
        rintro ⟨_, e2⟩
        rw [h0] at e2
        exact dec_ne _ e2
      · refine ev_neg h0 (Ev.bind hd ?_)
        rw [toList_S]
        by_cases h1 : Lib.decDigits (val10 0 (L s)) = L s
        · exact ev_use (ev_pos h1 (Ev.now _)) (if_pos ⟨by omega, h1⟩).symm
        · exact ev_use (ev_neg h1 (Ev.now _)) (if_neg (fun h => h1 h.2)).symm
    | succ d ih =>
      intro i hi h9 hall
      have hlt : i < (L s).length := by omega
      have hb : bt s (i : Int) = ((at_ (L s) i).toNat : Int) := bt_nat s i
      have hby := byte_lt (at_ (L s) i)
      by_cases hc : dgt (at_ (L s) i) = true
      · by_cases hl : (L s).length > 9
        · refine Ev.step (f := fun k => some (-1)) (fun k => ?_) (ev_use (Ev.now _) (rdec_long hl).symm)
          rw [spec_ReadDec.l0, if_pos (by omega), if_pos (by omega), hb, spec_l01In_eq, Option.bind_some, w64 (by omega) (by omega), if_pos (decide_eq_true (by have := (dgt_is _).1 hc; omega)), if_pos (by omega)]
        · have htk : (L s).take (i + 1) = (L s).take i ++ [at_ (L s) i] := take_at _ _ hlt
          have hv : val10 0 ((L s).take (i + 1)) = val10 0 ((L s).take i) * 10 + ((at_ (L s) i).toNat - 48) := by rw [htk, val10_append]; rfl
          have hlt9 : val10 0 ((L s).take i) < 1000000000 := by
            have := val10_lt ((L s).take i) 0 hall
            have h2 : 10 ^ ((L s).take i).length ≤ 10 ^ 9 := Nat.pow_le_pow_right (by decide) (by rw [List.length_take]; omega)
            rw [p9] at h2; omega
          refine Ev.step (f := fun k => spec_ReadDec.l0 k s (val10 0 ((L s).take (i + 1)) : Int) ((i + 1 : Nat) : Int)) (fun k => ?_) (ih (i + 1) (by omega) (by omega) ?_)
          · rw [spec_ReadDec.l0, if_pos (by omega), if_pos (by omega), hb, spec_l01In_eq, Option.bind_some, w64 (n := ((at_ (L s) i).toNat : Int)) (by omega) (by omega), if_pos (decide_eq_true (by have := (dgt_is _).1 hc; omega)), if_neg (by omega), hv, wa1 i (by omega)]
            have := step10 (val10 0 ((L s).take i)) (at_ (L s) i) hlt9 hc
            rw [w64 (n := ((at_ (L s) i).toNat : Int)) (by omega) (by omega)] at this
            rw [this]
          · intro c hcm
            rw [htk, List.mem_append, List.mem_singleton] at hcm
            rcases hcm with h | rfl
            · exact hall c h
            · exact hc
      · have hbad : rdec (L s) = -1 := rdec_bad ⟨at_ (L s) i, by rw [at_eq _ _ hlt]; exact List.getElem_mem hlt, by simpa using hc⟩
        refine Ev.step (f := fun k => some (-1)) (fun k => ?_) (ev_use (Ev.now _) hbad.symm)
        rw [spec_ReadDec.l0, if_pos (by omega), if_pos (by omega), hb, spec_l01In_eq, Option.bind_some, w64 (by omega) (by omega), if_neg]
        rw [decide_eq_true_iff]
        intro h; exact hc ((dgt_is _).2 (by omega))
  have := key (L s).length 0 (by omega) (by omega) (by simp)
  exact this
theorem ext_size3 (s : ByteArray) (a b : Nat) : (s.extract a b).size ≤ s.size := by rw [size_L, size_L, L_extract]; simp; omega
theorem app_size3 (s t : ByteArray) : (s ++ t).size = s.size + t.size := by rw [size_L, size_L, size_L, L_append, List.length_append]
theorem pickInt_any3 (l : List Int) (i h : Int) (q : List Int) (hl : l.length ≤ 1099511627776) (h0 : 0 ≤ i) (hi : i ≤ l.length) (hq : 1 ≤ q.length) (hq2 : q.length ≤ 256) :
    ∃ r i' h', spec_l01PickInt.f l i h q = some (r, i', h') ∧ 0 ≤ i' ∧ i' ≤ l.length := by
  obtain ⟨r, i', h', e, r0, r1, _, s0, s1⟩ := below_any l i h (q.length : Int) hl h0 hi (by omega)
  have hr := r1 (by omega)
  refine ⟨rd q r, i', h', ?_, s0, s1⟩
  unfold spec_l01PickInt.f
  rw [e, Option.bind_some, if_pos r0, if_pos hr]
theorem bent_any3 (l : List Int) (i h : Int) (s : ByteArray) (hs : s.size ≤ 1000) (hl : l.length ≤ 1099511627776) (h0 : 0 ≤ i) (hi : i ≤ l.length) :
    ∃ t i' h', spec_l01Bent.f l i h s = some (t, i', h') ∧ t.size ≤ 3000 ∧ 0 ≤ i' ∧ i' ≤ l.length := by
  obtain ⟨r, i1, h1, e1, r0, r1, _, p0, p1⟩ := below_any l i h ((s.size : Int) + 1) hl h0 hi (by omega)
  have hr := r1 (by omega)
  obtain ⟨q, i2, h2, e2, q0, q1, _, t0, t1⟩ := below_any l i1 h1 8 hl p0 p1 (by omega)
  unfold spec_l01Bent.f
  rw [w64 (n := (s.size : Int) + 1) (by omega) (by omega), e1, Option.bind_some, e2, Option.bind_some]
  by_cases c0 : q = 0
  · rw [if_pos c0, if_pos r0, if_pos (by show r ≤ _; omega)]
    exact ⟨_, _, _, rfl, Nat.le_trans (ext_size3 _ _ _) (by omega), t0, t1⟩
  · by_cases c1 : q = 1
    · obtain ⟨u, i3, h3, e3, hu, s0, s1⟩ := pick_any l i2 h2 [(⟨#[48]⟩), (⟨#[32]⟩), (⟨#[255]⟩), (⟨#[34]⟩), (⟨#[10]⟩), (⟨#[97]⟩), (⟨#[44]⟩), (⟨#[61]⟩)] hl t0 t1 (by simp) (by simp)
      have hu1 : u.size ≤ 1 := by
        have : ∀ x ∈ ([(⟨#[48]⟩), (⟨#[32]⟩), (⟨#[255]⟩), (⟨#[34]⟩), (⟨#[10]⟩), (⟨#[97]⟩), (⟨#[44]⟩), (⟨#[61]⟩)] : List ByteArray), x.size ≤ 1 := by decide
        exact this u hu
      have x1 := ext_size3 s 0 r.toNat
      have x2 := ext_size3 s r.toNat s.size
      rw [if_neg c0, if_pos c1, if_pos r0, if_pos (by show r ≤ _; omega), e3, Option.bind_some, if_pos (by show (s.extract 0 r.toNat).size + u.size ≤ _; omega), if_pos (by show ((s.extract 0 r.toNat) ++ u).size + (s.extract r.toNat s.size).size ≤ _; rw [app_size3]; omega)]
      refine ⟨_, _, _, rfl, ?_, s0, s1⟩
      show (s.extract 0 r.toNat ++ u ++ s.extract r.toNat s.size).size ≤ _
      rw [app_size3, app_size3]; omega
    · by_cases c2 : q = 2
      · by_cases c3 : r < (s.size : Int)
        · obtain ⟨u, i3, h3, e3, hu, s0, s1⟩ := pick_any l i2 h2 [(⟨#[48]⟩), (⟨#[65]⟩), (⟨#[0]⟩), (⟨#[57]⟩), (⟨#[93]⟩), (⟨#[92]⟩)] hl t0 t1 (by simp) (by simp)
          have hu1 : u.size ≤ 1 := by
            have : ∀ x ∈ ([(⟨#[48]⟩), (⟨#[65]⟩), (⟨#[0]⟩), (⟨#[57]⟩), (⟨#[93]⟩), (⟨#[92]⟩)] : List ByteArray), x.size ≤ 1 := by decide
            exact this u hu
          have x1 := ext_size3 s 0 r.toNat
          have x2 := ext_size3 s (r + 1).toNat s.size
          rw [if_neg c0, if_neg c1, if_pos c2, if_pos c3, if_pos r0, if_pos (by show r ≤ _; omega), e3, Option.bind_some, if_pos (by show (s.extract 0 r.toNat).size + u.size ≤ _; omega), w64 (n := r + 1) (by omega) (by omega), if_pos (by omega), if_pos (by omega), if_pos (by show ((s.extract 0 r.toNat) ++ u).size + (s.extract (r + 1).toNat s.size).size ≤ _; rw [app_size3]; omega)]
          refine ⟨_, _, _, rfl, ?_, s0, s1⟩
          show (s.extract 0 r.toNat ++ u ++ s.extract (r + 1).toNat s.size).size ≤ _
          rw [app_size3, app_size3]; omega
        · rw [if_neg c0, if_neg c1, if_pos c2, if_neg c3]
          exact ⟨_, _, _, rfl, by omega, t0, t1⟩
      · rw [if_neg c0, if_neg c1, if_neg c2]
        exact ⟨_, _, _, rfl, by omega, t0, t1⟩
theorem raw_any3 (l : List Int) (i h : Int) (hl : l.length ≤ 1099511627776) (h0 : 0 ≤ i) (hi : i ≤ l.length) :
    ∃ t i' h', Ev (fun k => spec_l01Raw.f k l i h) (t, i', h') ∧ t.size ≤ 20 ∧ 0 ≤ i' ∧ i' ≤ l.length := by
  obtain ⟨r, i1, h1, e1, r0, r1, _, p0, p1⟩ := below_any l i h 12 hl h0 hi (by omega)
  obtain ⟨t, i2, h2, e2, ht, q0, q1⟩ := text_any l i1 h1 r hl p0 p1 r0 (by omega)
  obtain ⟨u, i3, h3, e3, hu, s0, s1⟩ := pick_any l i2 h2 [(⟨#[]⟩), (⟨#[34]⟩), (⟨#[92]⟩), (⟨#[10]⟩), (⟨#[32]⟩), (⟨#[37]⟩), (⟨#[127]⟩)] hl q0 q1 (by simp) (by simp)
  have hu1 : u.size ≤ 1 := by
    have : ∀ x ∈ ([(⟨#[]⟩), (⟨#[34]⟩), (⟨#[92]⟩), (⟨#[10]⟩), (⟨#[32]⟩), (⟨#[37]⟩), (⟨#[127]⟩)] : List ByteArray), x.size ≤ 1 := by decide
    exact this u hu
  have hb := r1 (by omega)
  refine ⟨t ++ u, i3, h3, ?_, by rw [app_size3]; omega, s0, s1⟩
  unfold spec_l01Raw.f
  refine ev_const e1 (Ev.bind e2 (ev_const e3 (ev_pos ?_ (Ev.now _))))
  show t.size + u.size ≤ _
  omega
theorem drawQuote3 (l : List Int) (hl : l.length ≤ 1048576) : ∃ t, Ev (fun k => spec_DrawQuote.f k l) t ∧ t.size ≤ 4000 := by
  obtain ⟨h, e⟩ := new_any l hl
  obtain ⟨t, i', h', e2, ht, _⟩ := raw_any3 l 0 h (by omega) (by omega) (by omega)
  exact ⟨t, by unfold spec_DrawQuote.f; exact Ev.bind e (Ev.bind e2 (Ev.now _)), by omega⟩
theorem drawUnquote3 (l : List Int) (hl : l.length ≤ 1048576) : ∃ t i, Ev (fun k => spec_DrawUnquote.f k l) (t, i) ∧ t.size ≤ 4000 := by
  obtain ⟨h, e⟩ := new_any l hl
  obtain ⟨t, i1, h1, e2, ht, p0, p1⟩ := raw_any3 l 0 h (by omega) (by omega) (by omega)
  have e3 := spec_Quote_ev t (by omega)
  have hq : (S (quote (L t))).size ≤ 1000 := by
    have := quoteIn_length (L t)
    have h2 := size_L t
    rw [size_S]
    unfold quote
    rw [List.length_cons, List.length_append, List.length_singleton]; omega
  obtain ⟨u, i2, h2, e4, hu, q0, q1⟩ := bent_any3 l i1 h1 _ hq (by omega) p0 p1
  obtain ⟨v, i3, h3, e5, _, _⟩ := pickInt_any3 l i2 h2 [1, 1, 1, 1, 0, 2, (-1), 9223372036854775807] (by omega) q0 q1 (by simp) (by simp)
  have h1s : ((⟨#[120]⟩ : ByteArray) ++ u).size = 1 + u.size := by rw [app_size3]; rfl
  refine ⟨((⟨#[120]⟩ : ByteArray) ++ u) ++ (⟨#[121]⟩ : ByteArray), v, ?_, by rw [app_size3, h1s]; show 1 + u.size + 1 ≤ _; omega⟩
  unfold spec_DrawUnquote.f
  exact Ev.bind e (Ev.bind e2 (Ev.bind e3 (ev_const e4 (ev_pos (show 1 + u.size ≤ 9223372036854775807 by omega) (ev_pos (show ((⟨#[120]⟩ : ByteArray) ++ u).size + 1 ≤ 9223372036854775807 by omega) (ev_const e5 (Ev.now _)))))))
theorem drawLines3 (l : List Int) (hl : l.length ≤ 1048576) : ∃ t, Ev (fun k => spec_DrawLines.f k l) t ∧ t.size ≤ 4000 := by
  obtain ⟨h, e⟩ := new_any l hl
  obtain ⟨n, i1, h1, e1, r0, r1, _, p0, p1⟩ := below_any l 0 h 6 (by omega) (by omega) (by omega) (by omega)
  have hn := r1 (by omega)
  have key : ∀ (d j : Nat) (s : ByteArray) (i h : Int), (j : Int) + d = n → s.size ≤ 2 * j → 0 ≤ i → i ≤ l.length → ∃ t, Ev (fun k => spec_DrawLines.l0 k s n (j : Int) l i h) t ∧ t.size ≤ 4000 := by
    intro d
    induction d with
    | zero =>
      intro j s i h hj hs _ _
      exact ⟨s, Ev.step (f := fun _ => some s) (fun k => by rw [spec_DrawLines.l0, if_neg (by omega)]) (Ev.now _), by omega⟩
    | succ d ih =>
      intro j s i h hj hs h0 hi
      obtain ⟨u, i2, h2, e2, hu, q0, q1⟩ := pick_any l i h [(⟨#[97]⟩ : ByteArray), (⟨#[10]⟩ : ByteArray), (⟨#[98, 99]⟩ : ByteArray), (⟨#[10]⟩ : ByteArray), (⟨#[]⟩ : ByteArray)] (by omega) h0 hi (by simp) (by simp)
      have hu1 : u.size ≤ 2 := by
        have : ∀ x ∈ [(⟨#[97]⟩ : ByteArray), (⟨#[10]⟩ : ByteArray), (⟨#[98, 99]⟩ : ByteArray), (⟨#[10]⟩ : ByteArray), (⟨#[]⟩ : ByteArray)], x.size ≤ 2 := by decide
        exact this u hu
      obtain ⟨t, e3, ht⟩ := ih (j + 1) (s ++ u) i2 h2 (by omega) (by rw [app_size3]; omega) q0 q1
      refine ⟨t, Ev.step (fun k => by rw [spec_DrawLines.l0, if_pos (by omega), wa1 j (by omega)]) (ev_const e2 (ev_pos (show s.size + u.size ≤ 9223372036854775807 by omega) e3)), ht⟩
  obtain ⟨t, e2, ht⟩ := key n.toNat 0 ⟨#[]⟩ i1 h1 (by omega) (by decide) p0 p1
  exact ⟨t, by unfold spec_DrawLines.f; exact Ev.bind e (ev_const e1 e2), ht⟩
theorem drawWords3 (l : List Int) (hl : l.length ≤ 1048576) : ∃ t, Ev (fun k => spec_DrawWords.f k l) t ∧ t.size ≤ 4000 := by
  obtain ⟨h, e⟩ := new_any l hl
  obtain ⟨n, i1, h1, e1, r0, r1, _, p0, p1⟩ := below_any l 0 h 6 (by omega) (by omega) (by omega) (by omega)
  have hn := r1 (by omega)
  have key : ∀ (d j : Nat) (s : ByteArray) (i h : Int), (j : Int) + d = n → s.size ≤ 2 * j → 0 ≤ i → i ≤ l.length → ∃ t, Ev (fun k => spec_DrawWords.l0 k s n (j : Int) l i h) t ∧ t.size ≤ 4000 := by
    intro d
    induction d with
    | zero =>
      intro j s i h hj hs _ _
      exact ⟨s, Ev.step (f := fun _ => some s) (fun k => by rw [spec_DrawWords.l0, if_neg (by omega)]) (Ev.now _), by omega⟩
    | succ d ih =>
      intro j s i h hj hs h0 hi
      obtain ⟨u, i2, h2, e2, hu, q0, q1⟩ := pick_any l i h [(⟨#[97]⟩ : ByteArray), (⟨#[32]⟩ : ByteArray), (⟨#[98, 99]⟩ : ByteArray), (⟨#[32]⟩ : ByteArray), (⟨#[]⟩ : ByteArray)] (by omega) h0 hi (by simp) (by simp)
      have hu1 : u.size ≤ 2 := by
        have : ∀ x ∈ [(⟨#[97]⟩ : ByteArray), (⟨#[32]⟩ : ByteArray), (⟨#[98, 99]⟩ : ByteArray), (⟨#[32]⟩ : ByteArray), (⟨#[]⟩ : ByteArray)], x.size ≤ 2 := by decide
        exact this u hu
      obtain ⟨t, e3, ht⟩ := ih (j + 1) (s ++ u) i2 h2 (by omega) (by rw [app_size3]; omega) q0 q1
      refine ⟨t, Ev.step (fun k => by rw [spec_DrawWords.l0, if_pos (by omega), wa1 j (by omega)]) (ev_const e2 (ev_pos (show s.size + u.size ≤ 9223372036854775807 by omega) e3)), ht⟩
  obtain ⟨t, e2, ht⟩ := key n.toNat 0 ⟨#[]⟩ i1 h1 (by omega) (by decide) p0 p1
  exact ⟨t, by unfold spec_DrawWords.f; exact Ev.bind e (ev_const e1 e2), ht⟩
theorem drawIndent3 (l : List Int) (hl : l.length ≤ 1048576) : ∃ t, Ev (fun k => spec_DrawIndent.f k l) t ∧ t.size ≤ 4000 := by
  obtain ⟨h, e⟩ := new_any l hl
  obtain ⟨u, i1, h1, e1, hu, p0, p1⟩ := pick_any l 0 h [(⟨#[]⟩ : ByteArray), (⟨#[32]⟩ : ByteArray), (⟨#[32, 32]⟩ : ByteArray), (⟨#[32, 32, 32, 32]⟩ : ByteArray)] (by omega) (by omega) (by omega) (by simp) (by simp)
  obtain ⟨v, i2, h2, e2, hv, _, _⟩ := pick_any l i1 h1 [(⟨#[]⟩ : ByteArray), (⟨#[97]⟩ : ByteArray), (⟨#[97, 32, 98]⟩ : ByteArray), (⟨#[9]⟩ : ByteArray)] (by omega) p0 p1 (by simp) (by simp)
  have hu1 : u.size ≤ 4 := by
    have : ∀ x ∈ [(⟨#[]⟩ : ByteArray), (⟨#[32]⟩ : ByteArray), (⟨#[32, 32]⟩ : ByteArray), (⟨#[32, 32, 32, 32]⟩ : ByteArray)], x.size ≤ 4 := by decide
    exact this u hu
  have hv1 : v.size ≤ 4 := by
    have : ∀ x ∈ [(⟨#[]⟩ : ByteArray), (⟨#[97]⟩ : ByteArray), (⟨#[97, 32, 98]⟩ : ByteArray), (⟨#[9]⟩ : ByteArray)], x.size ≤ 4 := by decide
    exact this v hv
  refine ⟨u ++ v, ?_, by rw [app_size3]; omega⟩
  unfold spec_DrawIndent.f
  exact Ev.bind e (ev_const e1 (ev_const e2 (ev_pos (show u.size + v.size ≤ 9223372036854775807 by omega) (Ev.now _))))
theorem drawDecText3 (l : List Int) (hl : l.length ≤ 1048576) : ∃ t, Ev (fun k => spec_DrawDecText.f k l) t ∧ (t = 0 ∨ t = -1 ∨ t = 10 ∨ t = 9223372036854775807 ∨ t = -9223372036854775808 ∨ (0 ≤ t ∧ t < 100000)) := by
  obtain ⟨h, e⟩ := new_any l hl
  obtain ⟨n, i1, h1, e1, r0, r1, _, p0, p1⟩ := below_any l 0 h 100000 (by omega) (by omega) (by omega) (by omega)
  have hn := r1 (by omega)
  obtain ⟨r, i', h', e2, q0, q1, _, s0, s1⟩ := below_any l i1 h1 6 (by omega) p0 p1 (by omega)
  have hr := q1 (by omega)
  refine ⟨rd [0, (-1), 10, 9223372036854775807, (-9223372036854775808), n] r, ?_, ?_⟩
  · unfold spec_DrawDecText.f
    refine Ev.bind e (ev_const e1 (ev_const (a := (rd [0, (-1), 10, 9223372036854775807, (-9223372036854775808), n] r, i', h')) ?_ (Ev.now _)))
    unfold spec_l01PickInt.f
    show (spec_l01Below.f l i1 h1 6).bind _ = _
    rw [e2, Option.bind_some]
    exact (if_pos q0).trans (if_pos hr)
  · have : r = 0 ∨ r = 1 ∨ r = 2 ∨ r = 3 ∨ r = 4 ∨ r = 5 := by omega
    rcases this with rfl | rfl | rfl | rfl | rfl | rfl
    · exact .inl rfl
    · exact .inr (.inl rfl)
    · exact .inr (.inr (.inl rfl))
    · exact .inr (.inr (.inr (.inl rfl)))
    · exact .inr (.inr (.inr (.inr (.inl rfl))))
    · exact .inr (.inr (.inr (.inr (.inr ⟨r0, hn⟩))))
theorem drawPlace3 (l : List Int) (hl : l.length ≤ 1048576) : ∃ t i, Ev (fun k => spec_DrawPlace.f k l) (t, i) ∧ t.size ≤ 4000 := by
  obtain ⟨h, e⟩ := new_any l hl
  obtain ⟨t, e1, ht⟩ := drawLines3 l hl
  obtain ⟨v, i3, h3, e5, _, _⟩ := pickInt_any3 l 0 h [0, 1, 2, (t.size : Int), wrap64 ((t.size : Int) + 1), (-1)] (by omega) (by omega) (by omega) (by simp) (by simp)
  exact ⟨t, v, by unfold spec_DrawPlace.f; exact Ev.bind e (Ev.bind e1 (ev_const e5 (Ev.now _))), ht⟩
theorem odd_any (l : List Int) (i h : Int) (hl : l.length ≤ 1099511627776) (h0 : 0 ≤ i) (hi : i ≤ l.length) : ∃ t i' h', spec_l01Odd.f l i h = some (t, i', h') ∧ t.size ≤ 20 := by
  obtain ⟨u, i1, h1, e1, hu, p0, p1⟩ := pick_any l i h [(⟨#[]⟩ : ByteArray), (⟨#[65]⟩ : ByteArray), (⟨#[97, 47, 47, 98]⟩ : ByteArray), (⟨#[47, 97]⟩ : ByteArray), (⟨#[97, 64, 98]⟩ : ByteArray), (⟨#[64]⟩ : ByteArray), (⟨#[64, 97]⟩ : ByteArray), (⟨#[97, 32, 98]⟩ : ByteArray), (⟨#[97, 47, 64, 98]⟩ : ByteArray), (⟨#[46]⟩ : ByteArray), (⟨#[120, 47]⟩ : ByteArray), (⟨#[120, 47, 110, 111, 100, 101, 95, 109, 111, 100, 117, 108, 101, 115, 47, 121]⟩ : ByteArray)] hl h0 hi (by simp) (by simp)
  have hu1 : u.size ≤ 20 := by
    have : ∀ x ∈ [(⟨#[]⟩ : ByteArray), (⟨#[65]⟩ : ByteArray), (⟨#[97, 47, 47, 98]⟩ : ByteArray), (⟨#[47, 97]⟩ : ByteArray), (⟨#[97, 64, 98]⟩ : ByteArray), (⟨#[64]⟩ : ByteArray), (⟨#[64, 97]⟩ : ByteArray), (⟨#[97, 32, 98]⟩ : ByteArray), (⟨#[97, 47, 64, 98]⟩ : ByteArray), (⟨#[46]⟩ : ByteArray), (⟨#[120, 47]⟩ : ByteArray), (⟨#[120, 47, 110, 111, 100, 101, 95, 109, 111, 100, 117, 108, 101, 115, 47, 121]⟩ : ByteArray)], x.size ≤ 20 := by decide
    exact this u hu
  exact ⟨u, i1, h1, by unfold spec_l01Odd.f; rw [e1]; rfl, hu1⟩
theorem name_any (l : List Int) (i h : Int) (hl : l.length ≤ 1099511627776) (h0 : 0 ≤ i) (hi : i ≤ l.length) : ∃ t i' h', spec_l01Name.f l i h = some (t, i', h') ∧ t.size ≤ 20 ∧ 0 ≤ i' ∧ i' ≤ l.length := by
  obtain ⟨u, i1, h1, e1, hu, p0, p1⟩ := pick_any l i h [(⟨#[97]⟩ : ByteArray), (⟨#[98]⟩ : ByteArray), (⟨#[99, 111, 114, 101]⟩ : ByteArray), (⟨#[108, 101, 102, 116, 45, 112, 97, 100]⟩ : ByteArray), (⟨#[64, 111, 114, 103, 47, 117, 105]⟩ : ByteArray), (⟨#[103, 111, 108, 97, 110, 103, 46, 111, 114, 103, 47, 120, 47, 116, 101, 120, 116]⟩ : ByteArray), (⟨#[108, 105, 98, 95, 99]⟩ : ByteArray), (⟨#[122, 101, 100]⟩ : ByteArray)] hl h0 hi (by simp) (by simp)
  have hu1 : u.size ≤ 20 := by
    have : ∀ x ∈ [(⟨#[97]⟩ : ByteArray), (⟨#[98]⟩ : ByteArray), (⟨#[99, 111, 114, 101]⟩ : ByteArray), (⟨#[108, 101, 102, 116, 45, 112, 97, 100]⟩ : ByteArray), (⟨#[64, 111, 114, 103, 47, 117, 105]⟩ : ByteArray), (⟨#[103, 111, 108, 97, 110, 103, 46, 111, 114, 103, 47, 120, 47, 116, 101, 120, 116]⟩ : ByteArray), (⟨#[108, 105, 98, 95, 99]⟩ : ByteArray), (⟨#[122, 101, 100]⟩ : ByteArray)], x.size ≤ 20 := by decide
    exact this u hu
  exact ⟨u, i1, h1, by unfold spec_l01Name.f; rw [e1]; rfl, hu1, p0, p1⟩
theorem nameOk_l0 (l : List Int) (hl : l.length ≤ 1099511627776) : ∀ (d : Nat) (s : ByteArray) (i h : Int), 61 - s.size = d → s.size ≤ 61 → 0 ≤ i → i ≤ l.length → ∃ t, Ev (fun k => spec_DrawNameOk.l0 k s l i h) t ∧ t.size ≤ 61 := by
  intro d
  induction d with
  | zero =>
    intro s i h hd hs h0 hi
    obtain ⟨n, i1, h1, e1, r0, r1, _, p0, p1⟩ := below_any l i h 2 hl h0 hi (by omega)
    have hn := r1 (by omega)
    have ew : wrap64 (60 + n) = 60 + n := w64 (by omega) (by omega)
    exact ⟨s, Ev.step (f := fun _ => some s) (fun k => by rw [spec_DrawNameOk.l0, e1, Option.bind_some, if_neg (by rw [ew]; omega)]) (Ev.now _), by omega⟩
  | succ d ih =>
    intro s i h hd hs h0 hi
    obtain ⟨n, i1, h1, e1, r0, r1, _, p0, p1⟩ := below_any l i h 2 hl h0 hi (by omega)
    have hn := r1 (by omega)
    have ew : wrap64 (60 + n) = 60 + n := w64 (by omega) (by omega)
    by_cases c : (s.size : Int) < wrap64 (60 + n)
    · have hz : (s ++ (⟨#[110]⟩ : ByteArray)).size = s.size + 1 := by rw [app_size3]; rfl
      obtain ⟨t, e2, ht⟩ := ih (s ++ (⟨#[110]⟩ : ByteArray)) i1 h1 (by omega) (by rw [ew] at c; omega) p0 p1
      exact ⟨t, Ev.step (fun k => by rw [spec_DrawNameOk.l0, e1, Option.bind_some, if_pos c, if_pos (by omega)]) e2, ht⟩
    · exact ⟨s, Ev.step (f := fun _ => some s) (fun k => by rw [spec_DrawNameOk.l0, e1, Option.bind_some, if_neg c]) (Ev.now _), by omega⟩
theorem plainOk_l0 (l : List Int) (hl : l.length ≤ 1099511627776) : ∀ (d : Nat) (s : ByteArray) (i h : Int), 101 - s.size = d → s.size ≤ 101 → 0 ≤ i → i ≤ l.length → ∃ t, Ev (fun k => spec_DrawPlainOk.l0 k s l i h) t ∧ t.size ≤ 101 := by
  intro d
  induction d with
  | zero =>
    intro s i h hd hs h0 hi
    obtain ⟨n, i1, h1, e1, r0, r1, _, p0, p1⟩ := below_any l i h 2 hl h0 hi (by omega)
    have hn := r1 (by omega)
    have ew : wrap64 (100 + n) = 100 + n := w64 (by omega) (by omega)
    exact ⟨s, Ev.step (f := fun _ => some s) (fun k => by rw [spec_DrawPlainOk.l0, e1, Option.bind_some, if_neg (by rw [ew]; omega)]) (Ev.now _), by omega⟩
  | succ d ih =>
    intro s i h hd hs h0 hi
    obtain ⟨n, i1, h1, e1, r0, r1, _, p0, p1⟩ := below_any l i h 2 hl h0 hi (by omega)
    have hn := r1 (by omega)
    have ew : wrap64 (100 + n) = 100 + n := w64 (by omega) (by omega)
    by_cases c : (s.size : Int) < wrap64 (100 + n)
    · have hz : (s ++ (⟨#[110]⟩ : ByteArray)).size = s.size + 1 := by rw [app_size3]; rfl
      obtain ⟨t, e2, ht⟩ := ih (s ++ (⟨#[110]⟩ : ByteArray)) i1 h1 (by omega) (by rw [ew] at c; omega) p0 p1
      exact ⟨t, Ev.step (fun k => by rw [spec_DrawPlainOk.l0, e1, Option.bind_some, if_pos c, if_pos (by omega)]) e2, ht⟩
    · exact ⟨s, Ev.step (f := fun _ => some s) (fun k => by rw [spec_DrawPlainOk.l0, e1, Option.bind_some, if_neg c]) (Ev.now _), by omega⟩
theorem drawNameOk3 (l : List Int) (hl : l.length ≤ 1048576) : ∃ t, Ev (fun k => spec_DrawNameOk.f k l) t ∧ t.size ≤ 4000 := by
  obtain ⟨h, e⟩ := new_any l hl
  obtain ⟨n, i1, h1, e1, r0, r1, _, p0, p1⟩ := below_any l 0 h 4 (by omega) (by omega) (by omega) (by omega)
  unfold spec_DrawNameOk.f
  by_cases c0 : n = 0
  · obtain ⟨t, i2, h2, e2, ht⟩ := odd_any l i1 h1 (by omega) p0 p1
    exact ⟨t, Ev.bind e (ev_const e1 (ev_pos c0 (ev_const e2 (Ev.now _)))), by omega⟩
  · by_cases c1 : n = 1
    · obtain ⟨t, e2, ht⟩ := nameOk_l0 l (by omega) 61 ⟨#[]⟩ i1 h1 (by decide) (by decide) p0 p1
      exact ⟨t, Ev.bind e (ev_const e1 (ev_neg c0 (ev_pos c1 e2))), by omega⟩
    · obtain ⟨t, i2, h2, e2, ht, q0, q1⟩ := name_any l i1 h1 (by omega) p0 p1
      obtain ⟨u, i3, h3, e3, hu, _⟩ := bent_any3 l i2 h2 t (by omega) (by omega) q0 q1
      exact ⟨u, Ev.bind e (ev_const e1 (ev_neg c0 (ev_neg c1 (ev_const e2 (ev_const e3 (Ev.now _)))))), by omega⟩
theorem drawPlainOk3 (l : List Int) (hl : l.length ≤ 1048576) : ∃ t, Ev (fun k => spec_DrawPlainOk.f k l) t ∧ t.size ≤ 4000 := by
  obtain ⟨h, e⟩ := new_any l hl
  obtain ⟨b, i1, h1, e1, p0, p1⟩ := once_any l 0 h 3 (by omega) (by omega) (by omega) (by omega)
  unfold spec_DrawPlainOk.f
  by_cases c0 : b = true
  · obtain ⟨t, e2, ht⟩ := plainOk_l0 l (by omega) 101 ⟨#[]⟩ i1 h1 (by decide) (by decide) p0 p1
    exact ⟨t, Ev.bind e (ev_const e1 (ev_pos c0 e2)), by omega⟩
  · obtain ⟨u, i2, h2, e2, hu, _, _⟩ := pick_any l i1 h1 [(⟨#[]⟩ : ByteArray), (⟨#[104, 116, 116, 112, 115, 58, 47, 47, 120, 46, 111, 114, 103, 47, 97, 45, 49, 46, 116, 103, 122]⟩ : ByteArray), (⟨#[97, 44, 98]⟩ : ByteArray), (⟨#[97, 32, 98]⟩ : ByteArray), (⟨#[39]⟩ : ByteArray), (⟨#[34]⟩ : ByteArray), (⟨#[92]⟩ : ByteArray), (⟨#[126]⟩ : ByteArray), (⟨#[127]⟩ : ByteArray)] (by omega) p0 p1 (by simp) (by simp)
    have hu1 : u.size ≤ 30 := by
      have : ∀ x ∈ [(⟨#[]⟩ : ByteArray), (⟨#[104, 116, 116, 112, 115, 58, 47, 47, 120, 46, 111, 114, 103, 47, 97, 45, 49, 46, 116, 103, 122]⟩ : ByteArray), (⟨#[97, 44, 98]⟩ : ByteArray), (⟨#[97, 32, 98]⟩ : ByteArray), (⟨#[39]⟩ : ByteArray), (⟨#[34]⟩ : ByteArray), (⟨#[92]⟩ : ByteArray), (⟨#[126]⟩ : ByteArray), (⟨#[127]⟩ : ByteArray)], x.size ≤ 30 := by decide
      exact this u hu
    exact ⟨u, Ev.bind e (ev_const e1 (ev_neg c0 (ev_const e2 (Ev.now _)))), by omega⟩
theorem drawReadDec3 (l : List Int) (hl : l.length ≤ 1048576) : ∃ t, Ev (fun k => spec_DrawReadDec.f k l) t ∧ t.size ≤ 4000 := by
  obtain ⟨h, e⟩ := new_any l hl
  obtain ⟨b, i1, h1, e1, p0, p1⟩ := once_any l 0 h 2 (by omega) (by omega) (by omega) (by omega)
  unfold spec_DrawReadDec.f
  by_cases c0 : b = true
  · obtain ⟨u, i2, h2, e2, hu, _, _⟩ := pick_any l i1 h1 [(⟨#[]⟩ : ByteArray), (⟨#[45, 49]⟩ : ByteArray), (⟨#[48, 48]⟩ : ByteArray), (⟨#[48, 49]⟩ : ByteArray), (⟨#[49, 120]⟩ : ByteArray), (⟨#[57, 57, 57, 57, 57, 57, 57, 57, 57]⟩ : ByteArray), (⟨#[49, 48, 48, 48, 48, 48, 48, 48, 48, 48]⟩ : ByteArray), (⟨#[49, 56, 52, 52, 54, 55, 52, 52, 48, 55, 51, 55, 48, 57, 53, 53, 49, 54, 49, 55]⟩ : ByteArray)] (by omega) p0 p1 (by simp) (by simp)
    have hu1 : u.size ≤ 30 := by
      have : ∀ x ∈ [(⟨#[]⟩ : ByteArray), (⟨#[45, 49]⟩ : ByteArray), (⟨#[48, 48]⟩ : ByteArray), (⟨#[48, 49]⟩ : ByteArray), (⟨#[49, 120]⟩ : ByteArray), (⟨#[57, 57, 57, 57, 57, 57, 57, 57, 57]⟩ : ByteArray), (⟨#[49, 48, 48, 48, 48, 48, 48, 48, 48, 48]⟩ : ByteArray), (⟨#[49, 56, 52, 52, 54, 55, 52, 52, 48, 55, 51, 55, 48, 57, 53, 53, 49, 54, 49, 55]⟩ : ByteArray)], x.size ≤ 30 := by decide
      exact this u hu
    exact ⟨u, Ev.bind e (ev_const e1 (ev_pos c0 (ev_const e2 (Ev.now _)))), by omega⟩
  · obtain ⟨n, i2, h2, e2, r0, r1, _, _, _⟩ := below_any l i1 h1 100000 (by omega) p0 p1 (by omega)
    have hn := r1 (by omega)
    refine ⟨_, Ev.bind e (ev_const e1 (ev_neg c0 (ev_const e2 (Ev.bind (spec_DecText_ev n (by omega) (by omega)) (Ev.now _))))), ?_⟩
    have e3 : n = ((n.toNat : Nat) : Int) := by omega
    rw [size_S, e3, itoa_nat]
    have := dec_len_le 8 n.toNat (by rw [show 8 + 1 = 9 from rfl, p9]; omega)
    omega
end Go.Proofs.YtbfbomcfmgdpkaaGreatDoor.U

end
section
namespace Go.Proofs.YtbfbomcfmgdpkaaGreatDoor.U
open Go Go.RowKit Go.Proofs.YtbfbomcfmgdpkaaGreatDoorW.PrintWords Go.Proofs.YtbfbomcfmgdpkaaGreatDoor.G
theorem spec_Words_ev (s : ByteArray) (hs : s.size ≤ 1048576) : Ev (fun k => spec_Words.f k s) ((cutP 32 [] (L s)).map S) := by
  unfold spec_Words.f
  exact Ev.bind (spec_l01Cut_ev s 32 hs) (Ev.now _)
theorem impl_Words_eq (s : ByteArray) (hs : s.size ≤ 1048576) : impl_Words.f s = some ((cutP 32 [] (L s)).map S) := by
  unfold impl_Words.f
  rw [show strings_Split.f s (⟨#[32]⟩ : ByteArray) = _ from split_one s 32 hs]; rfl
end Go.Proofs.YtbfbomcfmgdpkaaGreatDoor.U

end
