/- What Quote answers, of the program and of the reference. -/
import Derived.Test.YtjjpiioagoeiiaaPHex
import Derived.Test.YtjjpiioagoeiiaaGspecQuote
import Derived.Test.YtjjpiioagoeiiaaGimplQuote
namespace Go.Proofs.Ytjjpiioagoeiiaa.U
open Go Go.RowKit Go.Proofs.YtjjpiioagoeiiaaW.PrintWords Go.Proofs.Ytjjpiioagoeiiaa.G
set_option linter.unusedVariables false
set_option linter.unusedSimpArgs false

def quote1 (c : UInt8) : B := if c = 34 ∨ c = 92 then [92, c] else if c = 10 then [92, 110] else if c.toNat < 32 ∨ 127 ≤ c.toNat then [92, 120] ++ hexOf c else [c]
def quoteIn (l : B) : B := l.flatMap quote1
def quote (l : B) : B := 34 :: (quoteIn l ++ [34])
theorem quote1_length (c : UInt8) : (quote1 c).length ≤ 4 := by
  unfold quote1; split
  · simp
  · split
    · simp
    · split <;> simp [hexOf]
theorem quoteIn_length (l : B) : (quoteIn l).length ≤ 4 * l.length := by
  induction l with
  | nil => simp [quoteIn]
  | cons c l ih => have := quote1_length c; simp only [quoteIn, List.flatMap_cons, List.length_append, List.length_cons] at ih ⊢; omega
theorem one_extract (s : ByteArray) (i : Nat) (h : i < (L s).length) : s.extract i (i + 1) = S [at_ (L s) i] := L_inj (by
  rw [L_extract, L_S, drop_at _ _ h, Nat.add_sub_cancel_left]; rfl)
theorem putHex_one (c : UInt8) : putHex [c] = hexOf c := by simp [putHex]

theorem impl_Quote_ev (s : ByteArray) (hs : s.size ≤ 1099511627776) : Ev (fun k => impl_Quote.f k s) (S (quote (L s))) := by
  have hsz := size_L s
  refine ev_use (loop_up (fun k i (acc : B) => impl_Quote.l0 k s (S acc) (s.size : Int) i) (L s).length (fun i acc => acc.length ≤ 1 + 4 * i) (fun i acc => S (acc ++ quoteIn ((L s).drop i) ++ [34])) ?_ ?_ 0 [34] (by omega) (by simp)) (by simp [quote])
  · intro acc ha
    refine Ev.step (f := fun k => some (S (acc ++ [34]))) (fun k => ?_) (ev_use (Ev.now _) ?_)
    · rw [impl_Quote.l0, if_neg (by omega), if_pos (by rw [size_S]; omega), show (⟨#[34]⟩ : ByteArray) = S [34] from rfl, S_append]
    · rw [List.drop_length]; simp [quoteIn]
  · intro i acc hi ha ih
    have hz : (i : Int) < (s.size : Int) := by omega
    have hb := byte_lt (at_ (L s) i)
    have hex := one_extract s i hi
    have q1 := quote1_length (at_ (L s) i)
    refine ev_use (b := S (acc ++ quoteIn ((L s).drop i) ++ [34])) (?_ : Ev _ (S ((acc ++ quote1 (at_ (L s) i)) ++ quoteIn ((L s).drop (i + 1)) ++ [34]))) (by rw [drop_at _ _ hi]; simp [quoteIn])
    have hi1 : wrap64 ((i : Int) + 1) = ((i + 1 : Nat) : Int) := inc i (by omega)
    have ih' := ih (acc ++ quote1 (at_ (L s) i)) (by simp; omega)
    have hj : Ev (fun k => impl_Quote.j1 k s (S acc) (i : Int) (bt s (i : Int)) (s.size : Int) (i : Int) (decide (at_ (L s) i = 34 ∨ at_ (L s) i = 92))) (S ((acc ++ quote1 (at_ (L s) i)) ++ quoteIn ((L s).drop (i + 1)) ++ [34])) := by
      refine Ev.step (f := fun k => _) (fun k => by rw [impl_Quote.j1, hi1, Int.toNat_natCast, Int.toNat_natCast, hex, bt_nat]) ?_
      by_cases h1 : at_ (L s) i = 34 ∨ at_ (L s) i = 92
      · refine ev_pos (by simpa using h1) (ev_pos (by omega) (ev_pos (by omega) (ev_pos (by omega) (ev_pos (by rw [size_S]; simp) (ev_pos ?_ ?_)))))
        · rw [show (⟨#[92]⟩ : ByteArray) = S [92] from rfl, S_append, size_S, size_S]; simp; omega
        · rw [show (⟨#[92]⟩ : ByteArray) = S [92] from rfl, S_append, S_append]
          have hq := show quote1 (at_ (L s) i) = _ by rw [quote1, if_pos h1]
          rw [hq] at ih' ⊢
          exact ih'
      · refine ev_neg (by simpa using h1) ?_
        by_cases h2 : at_ (L s) i = 10
        · refine ev_pos ((byte_is _ 10 10 (by decide)).2 h2) (ev_pos (by rw [size_S]; omega) ?_)
          have hq := show quote1 (at_ (L s) i) = _ by rw [quote1, if_neg h1, if_pos h2]
          rw [hq] at ih' ⊢
          rw [show (⟨#[92, 110]⟩ : ByteArray) = S [92, 110] from rfl, S_append]
          exact ih'
        · refine ev_neg (fun e => h2 ((byte_is _ 10 10 (by decide)).1 e)) ?_
          have hp := impl_PutHex_ev (S [at_ (L s) i]) (by rw [size_S]; simp)
          rw [L_S, putHex_one] at hp
          by_cases h3 : (at_ (L s) i).toNat < 32
          · refine ev_pos (by omega) (ev_pos (by omega) (ev_pos (by omega) (ev_pos (by omega) ?_)))
            refine Ev.bind hp ?_
            refine ev_pos (by rw [size_S]; simp [hexOf]) (ev_pos ?_ ?_)
            · rw [show (⟨#[92, 120]⟩ : ByteArray) = S [92, 120] from rfl, S_append, size_S, size_S]; simp [hexOf]; omega
            · rw [show (⟨#[92, 120]⟩ : ByteArray) = S [92, 120] from rfl, S_append, S_append]
              have hq := show quote1 (at_ (L s) i) = _ by rw [quote1, if_neg h1, if_neg h2, if_pos (.inl h3)]
              rw [hq] at ih' ⊢
              exact ih'
          · refine ev_neg (by omega) ?_
            by_cases h4 : 127 ≤ (at_ (L s) i).toNat
            · refine ev_pos (by omega) (ev_pos (by omega) (ev_pos (by omega) (ev_pos (by omega) ?_)))
              refine Ev.bind hp ?_
              refine ev_pos (by rw [size_S]; simp [hexOf]) (ev_pos ?_ ?_)
              · rw [show (⟨#[92, 120]⟩ : ByteArray) = S [92, 120] from rfl, S_append, size_S, size_S]; simp [hexOf]; omega
              · rw [show (⟨#[92, 120]⟩ : ByteArray) = S [92, 120] from rfl, S_append, S_append]
                have hq := show quote1 (at_ (L s) i) = _ by rw [quote1, if_neg h1, if_neg h2, if_pos (.inr h4)]
                rw [hq] at ih' ⊢
                exact ih'
            · refine ev_neg (by omega) (ev_pos (by omega) (ev_pos (by omega) (ev_pos (by omega) (ev_pos (by rw [size_S, size_S]; simp; omega) ?_))))
              rw [S_append]
              have hq := show quote1 (at_ (L s) i) = _ by rw [quote1, if_neg h1, if_neg h2, if_neg (by omega)]
              rw [hq] at ih' ⊢
              exact ih'
    refine Ev.step (f := fun k => impl_Quote.j1 k s (S acc) (i : Int) (bt s (i : Int)) (s.size : Int) (i : Int) (decide (at_ (L s) i = 34 ∨ at_ (L s) i = 92))) (fun k => ?_) hj
    rw [impl_Quote.l0, if_pos hz, if_pos (by omega), if_pos hz]
    by_cases h1 : at_ (L s) i = 34
    · rw [if_pos (by rw [bt_nat]; exact (byte_is _ 34 34 (by decide)).2 h1)]; simp [h1]
    · rw [if_neg (by rw [bt_nat]; exact fun e => h1 ((byte_is _ 34 34 (by decide)).1 e))]
      congr 1
      rw [bt_nat, Bool.eq_iff_iff]
      simp [h1, (byte_is (at_ (L s) i) 92 92 (by decide))]

theorem spec_Quote_ev (s : ByteArray) (hs : s.size ≤ 1099511627776) : Ev (fun k => spec_Quote.f k s) (S (quote (L s))) := by
  have hsz := size_L s
  refine ev_use (loop_up (fun k i (acc : B) => spec_Quote.l0 k s (I acc) i) (L s).length (fun i acc => acc.length ≤ 1 + 4 * i) (fun i acc => S (acc ++ quoteIn ((L s).drop i) ++ [34])) ?_ ?_ 0 [34] (by omega) (by simp)) (by simp [quote])
  · intro acc ha
    refine Ev.step (f := fun k => some (S (acc ++ [34]))) (fun k => ?_) (ev_use (Ev.now _) ?_)
    · rw [spec_Quote.l0, if_neg (by omega), if_pos (by rw [I_length]; omega), show ([34] : List Int) = I [34] from rfl, ← I_append, str_I]
    · rw [List.drop_length]; simp [quoteIn]
  · intro i acc hi ha ih
    have hz : (i : Int) < (s.size : Int) := by omega
    have hb := byte_lt (at_ (L s) i)
    have hex := one_extract s i hi
    have q1 := quote1_length (at_ (L s) i)
    refine ev_use (b := S (acc ++ quoteIn ((L s).drop i) ++ [34])) (?_ : Ev _ (S ((acc ++ quote1 (at_ (L s) i)) ++ quoteIn ((L s).drop (i + 1)) ++ [34]))) (by rw [drop_at _ _ hi]; simp [quoteIn])
    have hi1 : wrap64 ((i : Int) + 1) = ((i + 1 : Nat) : Int) := inc i (by omega)
    have ih' := ih (acc ++ quote1 (at_ (L s) i)) (by simp; omega)
    have hp := spec_PutHex_ev (S [at_ (L s) i]) (by rw [size_S]; simp)
    rw [L_S, putHex_one] at hp
    have e12 : ([92, 120] : List Int) = I [92, 120] := rfl
    have hj : Ev (fun k => spec_Quote.j1 k s (I acc) (i : Int) (decide (at_ (L s) i = 34 ∨ at_ (L s) i = 92))) (S ((acc ++ quote1 (at_ (L s) i)) ++ quoteIn ((L s).drop (i + 1)) ++ [34])) := by
      refine Ev.step (f := fun k => _) (fun k => by rw [spec_Quote.j1, hi1, Int.toNat_natCast, Int.toNat_natCast, hex, bt_nat]) ?_
      by_cases h1 : at_ (L s) i = 34 ∨ at_ (L s) i = 92
      · refine ev_pos (by simpa using h1) (ev_pos (by omega) (ev_pos hz (ev_some (ev_pos (by simp; omega) ?_))))
        have hq := show quote1 (at_ (L s) i) = _ by rw [quote1, if_pos h1]
        rw [hq] at ih' ⊢
        rw [show [92, ((at_ (L s) i).toNat : Int)] = I [92, at_ (L s) i] from rfl, ← I_append]
        exact ih'
      · refine ev_neg (by simpa using h1) (ev_pos (by omega) (ev_pos hz ?_))
        by_cases h2 : at_ (L s) i = 10
        · refine ev_pos ((byte_is _ 10 10 (by decide)).2 h2) (ev_some (ev_pos (by simp; omega) ?_))
          have hq := show quote1 (at_ (L s) i) = _ by rw [quote1, if_neg h1, if_pos h2]
          rw [hq] at ih' ⊢
          rw [show ([92, 110] : List Int) = I [92, 110] from rfl, ← I_append]
          exact ih'
        · refine ev_neg (fun e => h2 ((byte_is _ 10 10 (by decide)).1 e)) ?_
          by_cases h3 : (at_ (L s) i).toNat < 32
          · refine ev_pos (by omega) (ev_some (ev_pos (by simp; omega) (ev_some (ev_pos (by omega) (ev_pos (by omega) ?_)))))
            refine Ev.bind hp ?_
            refine ev_pos (by rw [size_S]; simp [hexOf]; omega) ?_
            rw [e12, ← I_append, bytesOf_I, L_S, ← I_append]
            have hq := show quote1 (at_ (L s) i) = _ by rw [quote1, if_neg h1, if_neg h2, if_pos (.inl h3)]
            rw [hq, ← List.append_assoc] at ih' ⊢
            exact ih'
          · refine ev_neg (by omega) ?_
            by_cases h4 : 127 ≤ (at_ (L s) i).toNat
            · refine ev_pos (by omega) (ev_some (ev_pos (by simp; omega) (ev_some (ev_pos (by omega) (ev_pos (by omega) ?_)))))
              refine Ev.bind hp ?_
              refine ev_pos (by rw [size_S]; simp [hexOf]; omega) ?_
              rw [e12, ← I_append, bytesOf_I, L_S, ← I_append]
              have hq := show quote1 (at_ (L s) i) = _ by rw [quote1, if_neg h1, if_neg h2, if_pos (.inr h4)]
              rw [hq, ← List.append_assoc] at ih' ⊢
              exact ih'
            · refine ev_neg (by omega) (ev_pos (by simp; omega) ?_)
              have hq := show quote1 (at_ (L s) i) = _ by rw [quote1, if_neg h1, if_neg h2, if_neg (by omega)]
              rw [hq] at ih' ⊢
              rw [show [((at_ (L s) i).toNat : Int)] = I [at_ (L s) i] from rfl, ← I_append]
              exact ih'
    refine Ev.step (f := fun k => spec_Quote.j1 k s (I acc) (i : Int) (decide (at_ (L s) i = 34 ∨ at_ (L s) i = 92))) (fun k => ?_) hj
    rw [spec_Quote.l0, if_pos hz, if_pos (by omega)]
    by_cases h1 : at_ (L s) i = 34
    · rw [if_pos (by rw [bt_nat]; exact (byte_is _ 34 34 (by decide)).2 h1)]; simp [h1]
    · rw [if_neg (by rw [bt_nat]; exact fun e => h1 ((byte_is _ 34 34 (by decide)).1 e))]
      congr 1
      rw [bt_nat, Bool.eq_iff_iff]
      simp [h1, (byte_is (at_ (L s) i) 92 92 (by decide))]

end Go.Proofs.Ytjjpiioagoeiiaa.U
