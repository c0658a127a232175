/- What GetBase64 of the program answers: the same as the reference's. -/
import Derived.Test.YtgfaphlpkjikkaaDoorPGetB64
import Derived.Lib.TrimByte
namespace Go.Proofs.YtgfaphlpkjikkaaDoor.U
open Go Go.RowKit Go.Proofs.YtgfaphlpkjikkaaDoorW.PrintWords Go.Proofs.YtgfaphlpkjikkaaDoorW.PrintMore Go.Proofs.YtgfaphlpkjikkaaDoor.G
set_option linter.unusedVariables false
set_option linter.unusedSimpArgs false

/-- A sign of base64. -/
def ok64 (c : UInt8) : Bool := decide (0 ≤ idx sig c)
/-- What is encoded is signs and then at most two '='. -/
theorem sign_ok (n m k : Nat) (h : ¬ m < k) : ok64 (sign n m k) = true := by
  unfold sign
  rw [if_neg h]
  have hlt : n / 2 ^ (18 - 6 * k) % 64 < 64 := Nat.mod_lt _ (by decide)
  generalize n / 2 ^ (18 - 6 * k) % 64 = j at *
  have : ∀ j : Fin 64, ok64 (at_ sig j.1) = true := by decide +kernel
  exact this ⟨j, hlt⟩
theorem b64_form : ∀ (d : Nat) (l : B), l.length ≤ d → ∃ v k, b64 l = v ++ List.replicate k 61 ∧ v.all ok64 = true := by
  intro d
  induction d with
  | zero =>
    intro l hl
    have : l = [] := List.eq_nil_of_length_eq_zero (by omega)
    subst this
    exact ⟨[], 0, by rw [b64_nil]; rfl, rfl⟩
  | succ d ih =>
    intro l hl
    by_cases h0 : 0 < l.length
    · rw [b64_step l h0]
      by_cases h3 : 3 ≤ l.length
      · obtain ⟨v, k, e, hv⟩ := ih (l.drop 3) (by rw [List.length_drop]; omega)
        refine ⟨four (val l) (min 3 l.length) ++ v, k, by rw [e, List.append_assoc], ?_⟩
        rw [Nat.min_eq_left h3, List.all_append, hv, Bool.and_true]
        unfold four
        simp [sign_ok]
      · have hd : l.drop 3 = [] := List.drop_eq_nil_of_le (by omega)
        rw [hd, b64_nil, List.append_nil, Nat.min_eq_right (by omega)]
        by_cases h1 : l.length = 1
        · rw [h1]
          refine ⟨[sign (val l) 1 0, sign (val l) 1 1], 2, ?_, by simp [sign_ok]⟩
          unfold four
          rw [show sign (val l) 1 2 = 61 from if_pos (by decide), show sign (val l) 1 3 = 61 from if_pos (by decide)]; rfl
        · have h2 : l.length = 2 := by omega
          rw [h2]
          refine ⟨[sign (val l) 2 0, sign (val l) 2 1, sign (val l) 2 2], 1, ?_, by simp [sign_ok]⟩
          unfold four
          rw [show sign (val l) 2 3 = 61 from if_pos (by decide)]; rfl
    · have : l = [] := List.eq_nil_of_length_eq_zero (by omega)
      subst this
      exact ⟨[], 0, by rw [b64_nil]; rfl, rfl⟩
/-- A text without its last '='. -/
def trim64 (l : B) : B := (l.reverse.dropWhile (· == 61)).reverse
theorem trim64_split (l : B) : ∃ k, l = trim64 l ++ List.replicate k 61 := by
  have h := List.takeWhile_append_dropWhile (p := (· == (61 : UInt8))) (l := l.reverse)
  have h2 := congrArg List.reverse h
  rw [List.reverse_append, List.reverse_reverse] at h2
  refine ⟨(l.reverse.takeWhile (· == 61)).length, ?_⟩
  have e : (l.reverse.takeWhile (· == 61)).reverse = List.replicate (l.reverse.takeWhile (· == 61)).length 61 := by
    rw [List.eq_replicate_iff]
    refine ⟨by simp, fun b hb => ?_⟩
    have := List.all_eq_true.1 List.all_takeWhile b (List.mem_reverse.1 hb)
    simpa using this
  rw [← e]; unfold trim64; exact h2.symm
theorem dropWhile_rep (k : Nat) (l : B) : (List.replicate k (61 : UInt8) ++ l).dropWhile (· == 61) = l.dropWhile (· == 61) := by
  induction k with
  | zero => rfl
  | succ k ih => rw [List.replicate_succ, List.cons_append, List.dropWhile_cons_of_pos (by simp), ih]
theorem trim64_b64 (l : B) : (trim64 (b64 l)).all ok64 = true := by
  obtain ⟨v, k, e, hv⟩ := b64_form l.length l (Nat.le_refl _)
  rw [e]
  unfold trim64
  rw [List.reverse_append, List.reverse_replicate, dropWhile_rep, List.all_reverse]
  rw [List.all_eq_true] at hv ⊢
  intro x hx
  exact hv x (List.mem_reverse.1 ((List.dropWhile_sublist _).mem hx))
/-- The decoder stops at what is no sign. -/
theorem dec64_app : ∀ (t r : B) (n m : Nat) (acc : B), t.all ok64 = true → (∀ c r', r = c :: r' → idx sig c < 0) → dec64 n m acc (t ++ r) = dec64 n m acc t := by
  intro t
  induction t with
  | nil =>
    intro r n m acc _ hr
    cases r with
    | nil => rfl
    | cons c r' => rw [List.nil_append]; unfold dec64; rw [if_pos (hr c r' rfl)]
  | cons x t ih =>
    intro r n m acc ht hr
    rw [List.all_cons, Bool.and_eq_true] at ht
    rw [List.cons_append]
    unfold dec64
    have hx : ¬ idx sig x < 0 := by have := ht.1; unfold ok64 at this; simpa using this
    rw [if_neg hx, if_neg hx, ih r _ _ _ ht.2 hr]

theorem or64 (x y : Int) (h0 : 0 ≤ x) (h1 : x < 16777216) (hy0 : 0 ≤ y) (hy1 : y < 64) : Go.bits .or .i64 (x * 64) y = x * 64 + y := by
  have e62 : (2 : Int) ^ 62 = 4611686018427387904 := by decide
  have e6 : (2 : Int) ^ 6 = 64 := by decide
  exact bits_join .i64 62 (by decide) wrap62 6 _ _ (by omega) (by rw [e6]; omega) (by rw [e62]; omega) hy0 (by rw [e6]; omega) (by rw [e62]; omega)
theorem or_num (x : Nat) (c : UInt8) (hx : x < 64) (hc : 0 ≤ idx sig c) : Go.bits .or .i64 (wrap64 ((x : Int) * 64)) (idx sig c) = ((x * 64 + dg c : Nat) : Int) := by
  have := dg_lt c
  have e : idx sig c = (dg c : Int) := by unfold dg; omega
  rw [w64 (n := (x : Int) * 64) (by omega) (by omega), e, or64 _ _ (by omega) (by omega) (by omega) (by omega)]; omega
theorem mask4 (x : Nat) (h : x < 65536) : Go.bits .and .i64 (x : Int) (wrap64 (shl .i64 1 (4 : Nat) - 1)) = ((x % 16 : Nat) : Int) := by
  have e : wrap64 (shl .i64 1 (4 : Nat) - 1) = 15 := by decide +kernel
  have e62 : (2 : Int) ^ 62 = 4611686018427387904 := by decide
  rw [e]
  have := bits_mask .i64 62 (by decide) wrap62 4 (by decide) (x : Int) (by omega) (by rw [e62]; omega)
  exact this.trans (by show (x : Int) % 16 = _; omega)
theorem mask2 (x : Nat) (h : x < 65536) : Go.bits .and .i64 (x : Int) (wrap64 (shl .i64 1 (2 : Nat) - 1)) = ((x % 4 : Nat) : Int) := by
  have e : wrap64 (shl .i64 1 (2 : Nat) - 1) = 3 := by decide +kernel
  have e62 : (2 : Int) ^ 62 = 4611686018427387904 := by decide
  rw [e]
  have := bits_mask .i64 62 (by decide) wrap62 2 (by decide) (x : Int) (by omega) (by rw [e62]; omega)
  exact this.trans (by show (x : Int) % 4 = _; omega)
theorem mask0 (x : Nat) (h : x < 65536) : Go.bits .and .i64 (x : Int) (wrap64 (shl .i64 1 (0 : Nat) - 1)) = ((0 : Nat) : Int) := by
  have e : wrap64 (shl .i64 1 (0 : Nat) - 1) = 0 := by decide +kernel
  have e62 : (2 : Int) ^ 62 = 4611686018427387904 := by decide
  rw [e]
  have := bits_mask .i64 62 (by decide) wrap62 0 (by decide) (x : Int) (by omega) (by rw [e62]; omega)
  exact this.trans (by show (x : Int) % 1 = _; omega)
theorem impl_GetBase64_l (s : ByteArray) (hs : s.size ≤ 1048576) (t r : B) (ht : L s = t ++ r) : ∀ (d i n m x h : Nat) (acc : B), i + d = t.length → n < 16777216 → m ≤ i → acc.length ≤ i → x = n % 2 ^ h → h = 6 * m % 8 →
    Ev (fun k => impl_GetBase64.l0 k s (I acc) (x : Int) (h : Int) (t.length : Int) (i : Int)) (if (t.drop i).all ok64 = true then fin64 s (dec64 n m acc (t.drop i)) else (S [], false)) := by
  have hsz : s.size = t.length + r.length := by rw [size_L, ht, List.length_append]
  have put : ∀ out : B, out.length ≤ 1048576 → Ev (fun k => (impl_PutBase64.f k (strOfNums (I out))).bind fun t => if t.toList = s.toList then some (strOfNums (I out), true) else some ((⟨#[]⟩ : ByteArray), false)) (fin64 s out) := by
    intro out ho
    rw [str_I]
    have h := impl_PutBase64_ev (S out) (by rw [size_S]; omega)
    rw [L_S] at h
    exact fin_ev s out h
  intro d
  induction d with
  | zero =>
    intro i n m x h acc hi hn hm ha _ _
    rw [List.drop_of_length_le (by omega), if_pos (show (List.all ([] : B) ok64) = true from rfl)]
    exact Ev.step (fun k => by rw [impl_GetBase64.l0, if_neg (by omega)]) (put acc (by omega))
  | succ d ih =>
    intro i n m x h acc hi hn hm ha hx hh
    have hlt : i < t.length := by omega
    rw [drop_at t i hlt]
    have hb : bt s (i : Int) = ((at_ t i).toNat : Int) := by
      rw [bt_nat, ht]; congr 2
      simp only [at_, List.getD_eq_getElem?_getD, List.getElem?_append_left hlt]
    have hat : strings_IndexByte.f (S sig) ((at_ t i).toNat : Int) = some (idx sig (at_ t i)) := by
      have := strings_IndexByte_eq (S sig) (at_ t i); rwa [L_S] at this
    refine Ev.step (fun k => (by rw [impl_GetBase64.l0, if_pos (by omega), if_pos (by omega), if_pos (by omega), hb, sig_S, hat, Option.bind_some])) ?_
    by_cases hc : idx sig (at_ t i) < 0
    · have hk : ok64 (at_ t i) = false := by unfold ok64; simpa using hc
      rw [List.all_cons, hk, Bool.false_and, if_neg (by decide)]
      exact ev_pos hc (Ev.now _)
    · have hk : ok64 (at_ t i) = true := by unfold ok64; simpa using hc
      rw [List.all_cons, hk, Bool.true_and]
      refine ev_neg hc ?_
      unfold dec64
      rw [if_neg hc]
      have hq : m % 4 = 0 ∨ m % 4 = 1 ∨ m % 4 = 2 ∨ m % 4 = 3 := by omega
      clear hat hb
      rcases hq with q | q | q | q
      · have e1 : 6 * m % 8 = 0 := by omega
        have e2 : 6 * (m + 1) % 8 = 6 := by omega
        have e3 : (m + 1) % 4 = 1 := by omega
        rw [e1] at hh
        subst hh
        have w1 : wrap64 (((0 : Nat) : Int) + 6) = ((6 : Nat) : Int) := by decide +kernel
        have hx0 : x = 0 := by rw [hx, Nat.pow_zero, Nat.mod_one]
        rw [or_num x _ (by omega) (Int.not_lt.1 hc), w1, wa1 i (by omega)]
        refine ev_neg (by decide) ?_
        rw [if_pos e3]
        refine ih (i + 1) _ (m + 1) _ _ _ (by omega) (nx_lt _ _) (by omega) (by omega) ?_ e2.symm
        have := dg_lt (at_ t i); unfold nx; generalize dg (at_ t i) = dd at *; rw [hx0]; simp only [Nat.reducePow]; omega
      · have e1 : 6 * m % 8 = 6 := by omega
        have e2 : 6 * (m + 1) % 8 = 4 := by omega
        have e3 : (m + 1) % 4 ≠ 1 := by omega
        have e4 : 2 * (3 - m % 4) = 4 := by omega
        rw [e1] at hh
        subst hh
        have w1 : wrap64 (((6 : Nat) : Int) + 6) = 12 := by decide +kernel
        have w2 : wrap64 (12 - 8) = ((4 : Nat) : Int) := by decide +kernel
        have hxl : x < 64 := by rw [hx]; exact Nat.mod_lt _ (by decide)
        rw [or_num x _ (by omega) (Int.not_lt.1 hc), w1, w2, wa1 i (by omega), shr_nat _ _ (by omega), mask4 _ (by have := dg_lt (at_ t i); omega)]
        refine ev_pos (by decide) (ev_pos (by omega) (ev_pos (by rw [I_length]; omega) ?_))
        rw [byte_app, show (x * 64 + dg (at_ t i)) / 2 ^ 4 % 256 = nx n (at_ t i) / 2 ^ (2 * (3 - m % 4)) % 256 from by
          rw [e4, hx]; have := dg_lt (at_ t i); unfold nx; generalize dg (at_ t i) = dd at *; simp only [Nat.reducePow]; omega, if_neg e3]
        refine ih (i + 1) _ (m + 1) _ _ _ (by omega) (nx_lt _ _) (by omega) (by rw [List.length_append]; simp; omega) ?_ e2.symm
        have := dg_lt (at_ t i); unfold nx; generalize dg (at_ t i) = dd at *; rw [hx]; simp only [Nat.reducePow]; omega
      · have e1 : 6 * m % 8 = 4 := by omega
        have e2 : 6 * (m + 1) % 8 = 2 := by omega
        have e3 : (m + 1) % 4 ≠ 1 := by omega
        have e4 : 2 * (3 - m % 4) = 2 := by omega
        rw [e1] at hh
        subst hh
        have w1 : wrap64 (((4 : Nat) : Int) + 6) = 10 := by decide +kernel
        have w2 : wrap64 (10 - 8) = ((2 : Nat) : Int) := by decide +kernel
        have hxl : x < 16 := by rw [hx]; exact Nat.mod_lt _ (by decide)
        rw [or_num x _ (by omega) (Int.not_lt.1 hc), w1, w2, wa1 i (by omega), shr_nat _ _ (by omega), mask2 _ (by have := dg_lt (at_ t i); omega)]
        refine ev_pos (by decide) (ev_pos (by omega) (ev_pos (by rw [I_length]; omega) ?_))
        rw [byte_app, show (x * 64 + dg (at_ t i)) / 2 ^ 2 % 256 = nx n (at_ t i) / 2 ^ (2 * (3 - m % 4)) % 256 from by
          rw [e4, hx]; have := dg_lt (at_ t i); unfold nx; generalize dg (at_ t i) = dd at *; simp only [Nat.reducePow]; omega, if_neg e3]
        refine ih (i + 1) _ (m + 1) _ _ _ (by omega) (nx_lt _ _) (by omega) (by rw [List.length_append]; simp; omega) ?_ e2.symm
        have := dg_lt (at_ t i); unfold nx; generalize dg (at_ t i) = dd at *; rw [hx]; simp only [Nat.reducePow]; omega
      · have e1 : 6 * m % 8 = 2 := by omega
        have e2 : 6 * (m + 1) % 8 = 0 := by omega
        have e3 : (m + 1) % 4 ≠ 1 := by omega
        have e4 : 2 * (3 - m % 4) = 0 := by omega
        rw [e1] at hh
        subst hh
        have w1 : wrap64 (((2 : Nat) : Int) + 6) = 8 := by decide +kernel
        have w2 : wrap64 (8 - 8) = ((0 : Nat) : Int) := by decide +kernel
        have hxl : x < 4 := by rw [hx]; exact Nat.mod_lt _ (by decide)
        rw [or_num x _ (by omega) (Int.not_lt.1 hc), w1, w2, wa1 i (by omega), shr_nat _ _ (by omega), mask0 _ (by have := dg_lt (at_ t i); omega)]
        refine ev_pos (by decide) (ev_pos (by omega) (ev_pos (by rw [I_length]; omega) ?_))
        rw [byte_app, show (x * 64 + dg (at_ t i)) / 2 ^ 0 % 256 = nx n (at_ t i) / 2 ^ (2 * (3 - m % 4)) % 256 from by
          rw [e4, hx]; have := dg_lt (at_ t i); unfold nx; generalize dg (at_ t i) = dd at *; simp only [Nat.reducePow]; omega, if_neg e3]
        refine ih (i + 1) _ (m + 1) _ _ _ (by omega) (nx_lt _ _) (by omega) (by rw [List.length_append]; simp; omega) ?_ e2.symm
        rw [Nat.pow_zero, Nat.mod_one]
theorem impl_GetBase64_ev (s : ByteArray) (hs : s.size ≤ 1048576) : Ev (fun k => impl_GetBase64.f k s) (fin64 s (dec64 0 0 [] (L s))) := by
  obtain ⟨k, hk⟩ := trim64_split (L s)
  have h2 : strings_TrimRight.f s ⟨#[61]⟩ = some (S (trim64 (L s))) := by
    unfold strings_TrimRight.f Lib.trimRightB
    rw [dif_pos (show (⟨#[61]⟩ : ByteArray).size = 1 from rfl), if_pos ⟨by decide, by omega⟩]
    rfl
  unfold impl_GetBase64.f
  refine ev_const h2 ?_
  rw [size_S]
  refine ev_use (impl_GetBase64_l s hs (trim64 (L s)) _ hk (trim64 (L s)).length 0 0 0 0 0 [] (by omega) (by omega) (by omega) (by simp) rfl rfl) ?_
  rw [List.drop_zero]
  by_cases hv : (trim64 (L s)).all ok64 = true
  · rw [if_pos hv]
    have := dec64_app (trim64 (L s)) (List.replicate k 61) 0 0 [] hv (fun c r' e => by
      cases k with
      | zero => simp at e
      | succ k => rw [List.replicate_succ] at e; injection e with e _; rw [← e]; decide +kernel)
    rw [← hk] at this
    rw [this]
  · rw [if_neg hv]
    unfold fin64
    rw [if_neg]
    intro e
    rw [← e] at hv
    exact hv (trim64_b64 _)
end Go.Proofs.YtgfaphlpkjikkaaDoor.U
