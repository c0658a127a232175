/- A part of the proof that the law FnExactPick answers true at every input that its row speaks of. Conditions: the row's own. -/
import Derived.Test.YtcfeihimmboghaaGreatDoorMFnExactPick0
import Derived.Lib.Bytealg
import Derived.Lib.TrimByte
import Derived.Sort.Statements
import Derived.Shelf.SlSortCmp.Insertion
import Derived.Lib.SlicesCompact
import Derived.Test.YtcfeihimmboghaaGreatDoorMFnExactPick1
import Derived.Test.YtcfeihimmboghaaGreatDoorKFnExactPick0
import Derived.Test.YtcfeihimmboghaaGreatDoorKFnExactPick1
import Derived.Test.YtcfeihimmboghaaGreatDoorKFnExactPick2
section
namespace Go.Proofs.YtcfeihimmboghaaGreatDoor.U
open Go Go.RowKit
set_option linter.unusedVariables false
set_option linter.unusedSimpArgs false
def cmpI (a b : Int) : Int := if a < b then -1 else if b < a then 1 else 0
def cmpP (a b : B) : Int := if 0 ≤ rdec a then (if 0 ≤ rdec b then cmpI (rdec a) (rdec b) else -1) else (if 0 ≤ rdec b then 1 else Lib.compareBytes a b)
def cmpL : List B → List B → Int
  | [], [] => 0
  | [], _ :: _ => -1
  | _ :: _, [] => 1
  | x :: l, y :: m => if cmpP x y = 0 then cmpL l m else cmpP x y
def cmpV (a b c : Int) (l : List B) (a' b' c' : Int) (l' : List B) : Int :=
  if cmpI a a' = 0 then (if cmpI b b' = 0 then (if cmpI c c' = 0 then (if l = [] ∨ l' = [] then cmpI l'.length l.length else cmpL l l') else cmpI c c') else cmpI b b') else cmpI a a'
def lex : List Int → List Int → Int
  | [], [] => 0
  | [], _ :: _ => -1
  | _ :: _, [] => 1
  | x :: l, y :: m => if x < y then -1 else if y < x then 1 else lex l m
theorem lex_self : ∀ l, lex l l = 0
  | [] => rfl
  | x :: l => by rw [lex, if_neg (by omega), if_neg (by omega), lex_self l]
theorem lex_eq : ∀ l m, lex l m = 0 → l = m
  | [], [], _ => rfl
  | [], _ :: _, h => by rw [lex] at h; omega
  | _ :: _, [], h => by rw [lex] at h; omega
  | x :: l, y :: m, h => by
    rw [lex] at h
    by_cases h1 : x < y
    · rw [if_pos h1] at h; omega
    · rw [if_neg h1] at h
      by_cases h2 : y < x
      · rw [if_pos h2] at h; omega
      · rw [if_neg h2] at h
        rw [lex_eq l m h, show x = y by omega]
theorem lex_anti : ∀ l m, lex l m = - lex m l
  | [], [] => rfl
  | [], _ :: _ => rfl
  | _ :: _, [] => rfl
  | x :: l, y :: m => by
    rw [lex, lex]
    by_cases h1 : x < y
    · rw [if_pos h1, if_neg (by omega), if_pos h1]
    · rw [if_neg h1]
      by_cases h2 : y < x
      · rw [if_pos h2, if_pos h2]; rfl
      · rw [if_neg h2, if_neg h2, if_neg h1, lex_anti l m]
theorem lex_le : ∀ l m n, lex l m ≤ 0 → lex m n ≤ 0 → lex l n ≤ 0
  | [], _, [], _, _ => Int.le_refl _
  | [], _, _ :: _, _, _ => by rw [lex]; omega
  | _ :: _, [], _, h, _ => by rw [lex] at h; omega
  | _ :: _, _ :: _, [], _, h => by rw [lex] at h; omega
  | x :: l, y :: m, z :: n, h, k => by
    rw [lex] at h k ⊢
    by_cases h1 : x < y
    · by_cases k1 : y < z
      · rw [if_pos (by omega)]; omega
      · rw [if_neg k1] at k
        by_cases k2 : z < y
        · rw [if_pos k2] at k; omega
        · rw [if_pos (by omega)]; omega
    · rw [if_neg h1] at h
      by_cases h2 : y < x
      · rw [if_pos h2] at h; omega
      · rw [if_neg h2] at h
        by_cases k1 : y < z
        · rw [if_pos (by omega)]; omega
        · rw [if_neg k1] at k
          by_cases k2 : z < y
          · rw [if_pos k2] at k; omega
          · rw [if_neg k2] at k
            rw [if_neg (by omega), if_neg (by omega)]
            exact lex_le l m n h k
theorem lex_cons (x : Int) (l m : List Int) : lex (x :: l) (x :: m) = lex l m := by rw [lex, if_neg (by omega), if_neg (by omega)]
def kT (x : B) : List Int := x.map fun c => (c.toNat : Int) + 1
def kP (x : B) : List Int := if 0 ≤ rdec x then [1, rdec x] else 2 :: (kT x ++ [0])
def kL (l : List B) : List Int := l.flatMap kP ++ [0]
def kV (a b c : Int) (l : List B) : List Int := a :: b :: c :: (if l = [] then [1] else 0 :: kL l)
theorem lex_kT : ∀ (x y : B) (r s : List Int), lex (kT x ++ 0 :: r) (kT y ++ 0 :: s) = if Lib.compareBytes x y = 0 then lex r s else Lib.compareBytes x y
  | [], [], r, s => by rw [Lib.compareBytes, if_pos rfl]; exact lex_cons 0 r s
  | [], y :: ys, r, s => by
    rw [Lib.compareBytes, if_neg (by omega)]
    show lex (0 :: r) (((y.toNat : Int) + 1) :: _) = -1
    rw [lex, if_pos (by omega)]
  | x :: xs, [], r, s => by
    rw [Lib.compareBytes, if_neg (by omega)]
    show lex (((x.toNat : Int) + 1) :: _) (0 :: s) = 1
    rw [lex, if_neg (by omega), if_pos (by omega)]
  | x :: xs, y :: ys, r, s => by
    show lex (((x.toNat : Int) + 1) :: (kT xs ++ 0 :: r)) (((y.toNat : Int) + 1) :: (kT ys ++ 0 :: s)) = _
    rw [lex, Lib.compareBytes]
    by_cases h1 : x < y
    · have := UInt8.lt_iff_toNat_lt.1 h1
      rw [if_pos (by omega), if_pos h1, if_neg (by omega)]
    · have h1' : ¬ x.toNat < y.toNat := fun h => h1 (UInt8.lt_iff_toNat_lt.2 h)
      rw [if_neg (by omega), if_neg h1]
      by_cases h2 : y < x
      · have := UInt8.lt_iff_toNat_lt.1 h2
        rw [if_pos (by omega), if_pos h2, if_neg (by omega)]
      · have h2' : ¬ y.toNat < x.toNat := fun h => h2 (UInt8.lt_iff_toNat_lt.2 h)
        rw [if_neg (by omega), if_neg h2]
        exact lex_kT xs ys r s
theorem cmpI_zero {a b : Int} (h : cmpI a b = 0) : a = b := by
  unfold cmpI at h
  by_cases h1 : a < b
  · rw [if_pos h1] at h; omega
  · rw [if_neg h1] at h
    by_cases h2 : b < a
    · rw [if_pos h2] at h; omega
    · omega
theorem cmpI_self (a : Int) : cmpI a a = 0 := by unfold cmpI; rw [if_neg (by omega), if_neg (by omega)]
theorem lex_cmpI (a b : Int) (r s : List Int) : lex (a :: r) (b :: s) = if cmpI a b = 0 then lex r s else cmpI a b := by
  rw [lex]
  unfold cmpI
  by_cases h1 : a < b
  · rw [if_pos h1, if_pos h1, if_neg (by omega)]
  · rw [if_neg h1, if_neg h1]
    by_cases h2 : b < a
    · rw [if_pos h2, if_pos h2, if_neg (by omega)]
    · rw [if_neg h2, if_neg h2, if_pos rfl]
theorem lex_kP (x y : B) (r s : List Int) : lex (kP x ++ r) (kP y ++ s) = if cmpP x y = 0 then lex r s else cmpP x y := by
  unfold kP cmpP
  by_cases h1 : 0 ≤ rdec x
  · rw [if_pos h1, if_pos h1]
    by_cases h2 : 0 ≤ rdec y
    · rw [if_pos h2, if_pos h2]
      show lex (1 :: rdec x :: r) (1 :: rdec y :: s) = _
      rw [lex_cons, lex_cmpI]
    · rw [if_neg h2, if_neg h2]
      show lex (1 :: rdec x :: r) (2 :: _) = _
      rw [lex, if_pos (by omega), if_neg (by omega)]
  · rw [if_neg h1, if_neg h1]
    by_cases h2 : 0 ≤ rdec y
    · rw [if_pos h2, if_pos h2]
      show lex (2 :: _) (1 :: rdec y :: s) = _
      rw [lex, if_neg (by omega), if_pos (by omega), if_neg (by omega)]
    · rw [if_neg h2, if_neg h2]
      show lex (2 :: ((kT x ++ [0]) ++ r)) (2 :: ((kT y ++ [0]) ++ s)) = _
      rw [lex_cons, List.append_assoc, List.append_assoc]
      exact lex_kT x y r s
theorem kP_head (x : B) : ∃ h t, kP x = h :: t ∧ 0 < h := by
  unfold kP
  by_cases h1 : 0 ≤ rdec x
  · rw [if_pos h1]; exact ⟨1, _, rfl, by omega⟩
  · rw [if_neg h1]; exact ⟨2, _, rfl, by omega⟩
theorem lex_kL : ∀ l m : List B, lex (kL l) (kL m) = cmpL l m
  | [], [] => by rw [cmpL]; exact lex_self _
  | [], y :: m => by
    obtain ⟨h, t, e, hp⟩ := kP_head y
    unfold kL
    rw [cmpL, List.flatMap_cons, e]
    show lex (0 :: []) (h :: _) = -1
    rw [lex, if_pos hp]
  | x :: l, [] => by
    obtain ⟨h, t, e, hp⟩ := kP_head x
    unfold kL
    rw [cmpL, List.flatMap_cons, e]
    show lex (h :: _) (0 :: []) = 1
    rw [lex, if_neg (by omega), if_pos hp]
  | x :: l, y :: m => by
    have ih := lex_kL l m
    unfold kL at ih ⊢
    rw [cmpL, List.flatMap_cons, List.flatMap_cons, List.append_assoc, List.append_assoc, lex_kP, ih]
theorem lex_kV (a b c : Int) (l : List B) (a' b' c' : Int) (l' : List B) : lex (kV a b c l) (kV a' b' c' l') = cmpV a b c l a' b' c' l' := by
  unfold kV cmpV
  rw [lex_cmpI, lex_cmpI, lex_cmpI]
  by_cases h1 : l = []
  · subst h1
    rw [if_pos rfl, if_pos (Or.inl rfl)]
    by_cases h2 : l' = []
    · subst h2; rw [if_pos rfl]; rfl
    · have h3 : 0 < l'.length := by cases l' with
        | nil => exact absurd rfl h2
        | cons x m => simp
      have e1 : lex [1] (0 :: kL l') = 1 := by rw [lex, if_neg (by omega), if_pos (by omega)]
      have e2 : cmpI (l'.length : Int) (([] : List B).length : Int) = 1 := by unfold cmpI; rw [List.length_nil, if_neg (by omega), if_pos (by omega)]
      rw [if_neg h2, e1, e2]
  · have h4 : 0 < l.length := by cases l with
        | nil => exact absurd rfl h1
        | cons x m => simp
    rw [if_neg h1]
    by_cases h2 : l' = []
    · subst h2
      have e1 : lex (0 :: kL l) [1] = -1 := by rw [lex, if_pos (by omega)]
      have e2 : cmpI (([] : List B).length : Int) (l.length : Int) = -1 := by unfold cmpI; rw [List.length_nil, if_pos (by omega)]
      rw [if_pos rfl, if_pos (Or.inr rfl), e1, e2]
    · rw [if_neg h2, lex_cons, lex_kL, if_neg (show ¬ (l = [] ∨ l' = []) from fun h => h.elim h1 h2)]
theorem bytes_zero : ∀ x y : B, Lib.compareBytes x y = 0 → x = y
  | [], [], _ => rfl
  | [], _ :: _, h => by rw [Lib.compareBytes] at h; omega
  | _ :: _, [], h => by rw [Lib.compareBytes] at h; omega
  | a :: x, b :: y, h => by
    rw [Lib.compareBytes] at h
    by_cases h1 : a < b
    · rw [if_pos h1] at h; omega
    · rw [if_neg h1] at h
      by_cases h2 : b < a
      · rw [if_pos h2] at h; omega
      · rw [if_neg h2] at h
        have h1' : ¬ a.toNat < b.toNat := fun h => h1 (UInt8.lt_iff_toNat_lt.2 h)
        have h2' : ¬ b.toNat < a.toNat := fun h => h2 (UInt8.lt_iff_toNat_lt.2 h)
        rw [bytes_zero x y h, UInt8.toNat_inj.1 (show a.toNat = b.toNat by omega)]
theorem rdec_inj {x y : B} (h : 0 ≤ rdec x) (e : rdec x = rdec y) : x = y := by
  obtain ⟨u, _, hx, hu⟩ := rdec_some (l := x) (by omega)
  obtain ⟨v, _, hy, hv⟩ := rdec_some (l := y) (by omega)
  have : u = v := by omega
  rw [hx, hy, this]
theorem cmpP_zero {x y : B} (h : cmpP x y = 0) : x = y := by
  unfold cmpP at h
  by_cases h1 : 0 ≤ rdec x
  · rw [if_pos h1] at h
    by_cases h2 : 0 ≤ rdec y
    · rw [if_pos h2] at h; exact rdec_inj h1 (cmpI_zero h)
    · rw [if_neg h2] at h; omega
  · rw [if_neg h1] at h
    by_cases h2 : 0 ≤ rdec y
    · rw [if_pos h2] at h; omega
    · rw [if_neg h2] at h; exact bytes_zero x y h
theorem cmpL_zero : ∀ l m : List B, cmpL l m = 0 → l = m
  | [], [], _ => rfl
  | [], _ :: _, h => by rw [cmpL] at h; omega
  | _ :: _, [], h => by rw [cmpL] at h; omega
  | x :: l, y :: m, h => by
    rw [cmpL] at h
    by_cases h1 : cmpP x y = 0
    · rw [if_pos h1] at h; rw [cmpP_zero h1, cmpL_zero l m h]
    · rw [if_neg h1] at h; exact absurd h h1
theorem cmpV_zero {a b c : Int} {l : List B} {a' b' c' : Int} {l' : List B} (h : cmpV a b c l a' b' c' l' = 0) : a = a' ∧ b = b' ∧ c = c' ∧ l = l' := by
  unfold cmpV at h
  by_cases h1 : cmpI a a' = 0
  · rw [if_pos h1] at h
    by_cases h2 : cmpI b b' = 0
    · rw [if_pos h2] at h
      by_cases h3 : cmpI c c' = 0
      · rw [if_pos h3] at h
        refine ⟨cmpI_zero h1, cmpI_zero h2, cmpI_zero h3, ?_⟩
        by_cases h4 : l = [] ∨ l' = []
        · rw [if_pos h4] at h
          have := cmpI_zero h
          rcases h4 with rfl | rfl
          · cases l' with
            | nil => rfl
            | cons x m => simp at this; omega
          · cases l with
            | nil => rfl
            | cons x m => simp at this; omega
        · rw [if_neg h4] at h; exact cmpL_zero l l' h
      · rw [if_neg h3] at h; exact absurd h h3
    · rw [if_neg h2] at h; exact absurd h h2
  · rw [if_neg h1] at h; exact absurd h h1
theorem val10_at : ∀ (x y : B) (a b : Nat), x.length = y.length → (∀ c ∈ x, dgt c = true) → (∀ c ∈ y, dgt c = true) → a < b → val10 a x < val10 b y
  | [], [], a, b, _, _, _, h => h
  | [], _ :: _, _, _, h, _, _, _ => by simp at h
  | _ :: _, [], _, _, h, _, _, _ => by simp at h
  | c :: x, d :: y, a, b, h, hx, hy, hab => by
    have hc := (dgt_is c).1 (hx c (by simp))
    exact val10_at x y _ _ (by simpa using h) (fun e he => hx e (by simp [he])) (fun e he => hy e (by simp [he])) (by omega)
theorem compare_val : ∀ (x y : B) (a : Nat), x.length = y.length → (∀ c ∈ x, dgt c = true) → (∀ c ∈ y, dgt c = true) → Lib.compareBytes x y = cmpI (val10 a x) (val10 a y)
  | [], [], a, _, _, _ => (cmpI_self _).symm
  | [], _ :: _, _, h, _, _ => by simp at h
  | _ :: _, [], _, h, _, _ => by simp at h
  | c :: x, d :: y, a, h, hx, hy => by
    have hc := (dgt_is c).1 (hx c (by simp))
    have hd := (dgt_is d).1 (hy d (by simp))
    have hx' : ∀ e ∈ x, dgt e = true := fun e he => hx e (by simp [he])
    have hy' : ∀ e ∈ y, dgt e = true := fun e he => hy e (by simp [he])
    have hl : x.length = y.length := by simpa using h
    rw [Lib.compareBytes]
    show _ = cmpI (val10 (a * 10 + (c.toNat - 48)) x) (val10 (a * 10 + (d.toNat - 48)) y)
    by_cases h1 : c < d
    · have h1' := UInt8.lt_iff_toNat_lt.1 h1
      have := val10_at x y (a * 10 + (c.toNat - 48)) (a * 10 + (d.toNat - 48)) hl hx' hy' (by omega)
      rw [if_pos h1]; unfold cmpI; rw [if_pos (by omega)]
    · have h1' : ¬ c.toNat < d.toNat := fun h => h1 (UInt8.lt_iff_toNat_lt.2 h)
      rw [if_neg h1]
      by_cases h2 : d < c
      · have h2' := UInt8.lt_iff_toNat_lt.1 h2
        have := val10_at y x (a * 10 + (d.toNat - 48)) (a * 10 + (c.toNat - 48)) hl.symm hy' hx' (by omega)
        rw [if_pos h2]; unfold cmpI; rw [if_neg (by omega), if_pos (by omega)]
      · have h2' : ¬ d.toNat < c.toNat := fun h => h2 (UInt8.lt_iff_toNat_lt.2 h)
        rw [if_neg h2, show d = c from UInt8.toNat_inj.1 (by omega)]
        exact compare_val x y _ hl hx' hy'
def stripz (x : B) : B := Lib.trimLeftB x 48
theorem strip_is (u : Nat) : (∀ c ∈ stripz (Lib.decDigits u), dgt c = true) ∧ val10 0 (stripz (Lib.decDigits u)) = u ∧ (∀ n, (stripz (Lib.decDigits u)).length = n + 1 → 10 ^ n ≤ u) := by
  have key : ∀ n v, v < n → 0 < v → ∃ c r, Lib.decDigits v = c :: r ∧ c ≠ 48 ∧ 10 ^ r.length ≤ v := by
    intro n
    induction n with
    | zero => intro v h; omega
    | succ n ih =>
      intro v hv h0
      by_cases h : v < 10
      · rw [Lib.decDigits_one h]
        refine ⟨_, [], rfl, ?_, by simp; omega⟩
        intro e
        have := congrArg UInt8.toNat e
        rw [dgt_of v h] at this
        simp at this; omega
      · obtain ⟨c, r, e, hc, hl⟩ := ih (v / 10) (by omega) (by omega)
        rw [decDigits_step v h, e]
        refine ⟨c, r ++ [UInt8.ofNat (48 + v % 10)], rfl, hc, ?_⟩
        rw [List.length_append, List.length_singleton, Nat.pow_succ]
        have := Nat.mul_le_mul_right 10 hl
        omega
  by_cases h0 : u = 0
  · subst h0
    have e : stripz (Lib.decDigits 0) = [] := by rw [Lib.decDigits_one (by omega)]; rfl
    rw [e]
    exact ⟨by simp, rfl, fun n h => by simp at h⟩
  · obtain ⟨c, r, e, hc, hl⟩ := key (u + 1) u (by omega) (by omega)
    have hs : stripz (Lib.decDigits u) = Lib.decDigits u := by
      unfold stripz Lib.trimLeftB
      rw [e, List.dropWhile_cons_of_neg (by simpa using hc)]
    rw [hs]
    refine ⟨dec_dgt u, dec_val u, fun n h => ?_⟩
    rw [e, List.length_cons] at h
    have : r.length = n := by omega
    rw [← this]; exact hl
theorem cmp_strip {x y : B} (hx : 0 ≤ rdec x) (hy : 0 ≤ rdec y) : (if cmpI (stripz x).length (stripz y).length = 0 then Lib.compareBytes (stripz x) (stripz y) else cmpI (stripz x).length (stripz y).length) = cmpI (rdec x) (rdec y) := by
  obtain ⟨u, _, ex, hu⟩ := rdec_some (l := x) (by omega)
  obtain ⟨v, _, ey, hv⟩ := rdec_some (l := y) (by omega)
  rw [hu, hv, ex, ey]
  obtain ⟨a1, a2, a3⟩ := strip_is u
  obtain ⟨b1, b2, b3⟩ := strip_is v
  generalize stripz (Lib.decDigits u) = p at *
  generalize stripz (Lib.decDigits v) = q at *
  have big : ∀ (p q : B) (u v : Nat), (∀ c ∈ p, dgt c = true) → val10 0 p = u → (∀ n, q.length = n + 1 → 10 ^ n ≤ v) → p.length < q.length → u < v := by
    intro p q u v h1 h2 h3 h4
    have := val10_lt p 0 h1
    rw [h2] at this
    have h5 := h3 (q.length - 1) (by omega)
    have h6 : 10 ^ p.length ≤ 10 ^ (q.length - 1) := Nat.pow_le_pow_right (by decide) (by omega)
    omega
  by_cases h : p.length = q.length
  · have e : cmpI (p.length : Int) (q.length : Int) = 0 := by rw [h]; exact cmpI_self _
    rw [if_pos e, compare_val p q 0 h a1 b1, a2, b2]
  · have lt : ∀ a b : Int, a < b → cmpI a b = -1 := fun a b h => by unfold cmpI; rw [if_pos h]
    have gt : ∀ a b : Int, b < a → cmpI a b = 1 := fun a b h => by unfold cmpI; rw [if_neg (by omega), if_pos h]
    by_cases h1 : p.length < q.length
    · have := big p q u v a1 a2 b3 h1
      rw [lt _ _ (show (p.length : Int) < q.length by omega), if_neg (by omega), lt _ _ (show (u : Int) < v by omega)]
    · have := big q p v u b1 b2 a3 (by omega)
      rw [gt _ _ (show (q.length : Int) < p.length by omega), if_neg (by omega), gt _ _ (show (v : Int) < u by omega)]
theorem text_less (a b : B) : (if Op.bytesLess a b = true then (-1 : Int) else if Op.bytesLess b a = true then 1 else 0) = Lib.compareBytes a b := by
  have h1 : ∀ a b : B, (Op.bytesLess a b = true ↔ Lib.compareBytes a b = -1) ∧ (Op.bytesLess b a = true ↔ Lib.compareBytes a b = 1) ∧ (Lib.compareBytes a b = -1 ∨ Lib.compareBytes a b = 0 ∨ Lib.compareBytes a b = 1) := by
    intro a
    induction a with
    | nil => intro b; cases b <;> simp [Op.bytesLess, Lib.compareBytes]
    | cons x a ih =>
      intro b
      cases b with
      | nil => simp [Op.bytesLess, Lib.compareBytes]
      | cons y b =>
        obtain ⟨i1, i2, i3⟩ := ih b
        rw [Op.bytesLess, Op.bytesLess, Lib.compareBytes]
        by_cases h1 : x < y
        · have h1' := UInt8.lt_iff_toNat_lt.1 h1
          have n2 : ¬ y < x := fun h => by have := UInt8.lt_iff_toNat_lt.1 h; omega
          have n3 : ¬ y = x := fun h => by rw [h] at h1'; omega
          simp [h1, n2, n3]
        · by_cases h2 : y < x
          · have h2' := UInt8.lt_iff_toNat_lt.1 h2
            have n3 : ¬ x = y := fun h => by rw [h] at h2'; omega
            simp [h1, h2, n3]
          · have h1' : ¬ x.toNat < y.toNat := fun h => h1 (UInt8.lt_iff_toNat_lt.2 h)
            have h2' : ¬ y.toNat < x.toNat := fun h => h2 (UInt8.lt_iff_toNat_lt.2 h)
            have e : x = y := UInt8.toNat_inj.1 (by omega)
            subst e
            simp [h1]
            exact ⟨i1, i2, i3⟩
  obtain ⟨i1, i2, i3⟩ := h1 a b
  by_cases c1 : Op.bytesLess a b = true
  · rw [if_pos c1, i1.1 c1]
  · rw [if_neg c1]
    by_cases c2 : Op.bytesLess b a = true
    · rw [if_pos c2, i2.1 c2]
    · rw [if_neg c2]
      rcases i3 with h | h | h
      · exact absurd (i1.2 h) c1
      · exact h.symm
      · exact absurd (i2.2 h) c2
end Go.Proofs.YtcfeihimmboghaaGreatDoor.U

end
section
namespace Go.Proofs.YtcfeihimmboghaaGreatDoor.U
open Go Go.RowKit Go.Sort Go.Lib
set_option linter.unusedVariables false
set_option linter.unusedSimpArgs false
variable {β : Type}
def Keyed (cf : β → β → Int) (k : β → List Int) : Prop := ∀ x y, cf x y = lex (k x) (k y)
section
variable {cf : β → β → Int} {k : β → List Int}
theorem Keyed.anti (h : Keyed cf k) (x y : β) : cf x y = - cf y x := by rw [h, h]; exact lex_anti _ _
theorem Keyed.self (h : Keyed cf k) (x : β) : cf x x = 0 := by rw [h]; exact lex_self _
theorem Keyed.le (h : Keyed cf k) {x y z : β} (a : cf x y ≤ 0) (b : cf y z ≤ 0) : cf x z ≤ 0 := by rw [h] at *; exact lex_le _ _ _ a b
theorem Keyed.le_lt (h : Keyed cf k) {x y z : β} (a : cf x y ≤ 0) (b : cf y z < 0) : cf x z < 0 := by
  have c := h.le a (by omega : cf y z ≤ 0)
  by_cases e : cf x z = 0
  · have d := h.le (x := z) (y := x) (z := y) (by rw [h.anti]; omega) a
    rw [h.anti] at d; omega
  · omega
theorem Keyed.lt_le (h : Keyed cf k) {x y z : β} (a : cf x y < 0) (b : cf y z ≤ 0) : cf x z < 0 := by
  have c := h.le (by omega : cf x y ≤ 0) b
  by_cases e : cf x z = 0
  · have d := h.le (x := y) (y := z) (z := x) b (by rw [h.anti]; omega)
    rw [h.anti] at d; omega
  · omega
theorem Keyed.swo (h : Keyed cf k) : SWO (ltOf cf) where
  irrefl x := by unfold ltOf; rw [h.self]; rfl
  trans x y z a b := by
    unfold ltOf at *
    rw [decide_eq_true_iff] at *
    exact h.lt_le a (by omega)
  ntrans x y z a b := by
    unfold ltOf at *
    rw [decide_eq_false_iff_not] at *
    have a' := h.anti x y
    have b' := h.anti y z
    have c' := h.anti x z
    have := h.le (x := z) (y := y) (z := x) (by omega) (by omega)
    omega
def Strict (cf : β → β → Int) (l : List β) : Prop := l.Pairwise fun x y => cf x y < 0
theorem strict_uniq (h : Keyed cf k) : ∀ l m : List β, Strict cf l → Strict cf m → (∀ x, x ∈ l ↔ x ∈ m) → l = m
  | [], [], _, _, _ => rfl
  | [], y :: m, _, _, e => absurd ((e y).2 (by simp)) (by simp)
  | x :: l, [], _, _, e => absurd ((e x).1 (by simp)) (by simp)
  | x :: l, y :: m, hl, hm, e => by
    unfold Strict at hl hm
    rw [List.pairwise_cons] at hl hm
    have xy : x = y := by
      have h1 := (e x).1 (by simp)
      have h2 := (e y).2 (by simp)
      rw [List.mem_cons] at h1 h2
      rcases h1 with h1 | h1
      · exact h1
      · rcases h2 with h2 | h2
        · exact h2.symm
        · have a := hm.1 x h1
          have b := hl.1 y h2
          have := h.anti x y
          omega
    subst xy
    rw [strict_uniq h l m hl.2 hm.2 fun z => ?_]
    have := e z
    rw [List.mem_cons, List.mem_cons] at this
    constructor
    · intro hz
      rcases this.1 (Or.inr hz) with rfl | h1
      · have := hl.1 z hz; rw [h.self] at this; omega
      · exact h1
    · intro hz
      rcases this.2 (Or.inr hz) with rfl | h1
      · have := hm.1 z hz; rw [h.self] at this; omega
      · exact h1
variable [DecidableEq β]
def ins (cf : β → β → Int) (s : β) : List β → List β
  | [] => [s]
  | w :: l => if cf w s < 0 then w :: ins cf s l else if w = s then w :: l else s :: w :: l
theorem mem_ins (s x : β) : ∀ l : List β, x ∈ ins cf s l ↔ x = s ∨ x ∈ l
  | [] => by simp [ins]
  | w :: l => by
    rw [ins]
    by_cases h1 : cf w s < 0
    · rw [if_pos h1, List.mem_cons, mem_ins s x l, List.mem_cons]
      constructor
      · rintro (h | h | h)
        · exact Or.inr (Or.inl h)
        · exact Or.inl h
        · exact Or.inr (Or.inr h)
      · rintro (h | h | h)
        · exact Or.inr (Or.inl h)
        · exact Or.inl h
        · exact Or.inr (Or.inr h)
    · rw [if_neg h1]
      by_cases h2 : w = s
      · subst h2; rw [if_pos rfl]; simp
      · rw [if_neg h2, List.mem_cons]
theorem strict_ins (h : Keyed cf k) (s : β) : ∀ l : List β, (∀ w ∈ l, cf w s = 0 → w = s) → Strict cf l → Strict cf (ins cf s l)
  | [], _, _ => by simp [ins, Strict]
  | w :: l, hi, hl => by
    unfold Strict at hl
    rw [List.pairwise_cons] at hl
    rw [ins]
    by_cases h1 : cf w s < 0
    · rw [if_pos h1]
      refine List.pairwise_cons.2 ⟨fun x hx => ?_, strict_ins h s l (fun v hv => hi v (by simp [hv])) hl.2⟩
      rcases (mem_ins s x l).1 hx with rfl | hx
      · exact h1
      · exact hl.1 x hx
    · rw [if_neg h1]
      by_cases h2 : w = s
      · rw [if_pos h2]; exact List.pairwise_cons.2 hl
      · rw [if_neg h2]
        have h3 : cf s w < 0 := by
          have a := h.anti s w
          have : cf w s ≠ 0 := fun e => h2 (hi w (by simp) e)
          omega
        refine List.pairwise_cons.2 ⟨fun x hx => ?_, List.pairwise_cons.2 hl⟩
        rw [List.mem_cons] at hx
        rcases hx with rfl | hx
        · exact h3
        · exact h.lt_le h3 (by have := hl.1 x hx; omega)
def sorted (cf : β → β → Int) (l : List β) : List β := l.foldl (fun out s => ins cf s out) []
theorem sorted_go (h : Keyed cf k) : ∀ (l out : List β), (∀ x, x ∈ l ∨ x ∈ out → ∀ y, y ∈ l ∨ y ∈ out → cf x y = 0 → x = y) → Strict cf out → Strict cf (l.foldl (fun out s => ins cf s out) out) ∧ ∀ x, x ∈ l.foldl (fun out s => ins cf s out) out ↔ x ∈ l ∨ x ∈ out
  | [], out, _, ho => ⟨ho, fun x => by simp⟩
  | s :: l, out, hi, ho => by
    have hs := strict_ins h s out (fun w hw => hi w (Or.inr hw) s (Or.inl (by simp))) ho
    have back : ∀ x, x ∈ l ∨ x ∈ ins cf s out → x ∈ s :: l ∨ x ∈ out := fun x hx => by
      rcases hx with hx | hx
      · exact Or.inl (by simp [hx])
      · rcases (mem_ins s x out).1 hx with rfl | hx
        · exact Or.inl (by simp)
        · exact Or.inr hx
    obtain ⟨h1, h2⟩ := sorted_go h l (ins cf s out) (fun x hx y hy => hi x (back x hx) y (back y hy)) hs
    refine ⟨h1, fun x => ?_⟩
    rw [List.foldl_cons, h2 x, mem_ins, List.mem_cons]
    constructor
    · rintro (h | h | h)
      · exact Or.inl (Or.inr h)
      · exact Or.inl (Or.inl h)
      · exact Or.inr h
    · rintro ((h | h) | h)
      · exact Or.inr (Or.inl h)
      · exact Or.inl h
      · exact Or.inr (Or.inr h)
theorem sorted_is (h : Keyed cf k) (l : List β) (hi : ∀ x ∈ l, ∀ y ∈ l, cf x y = 0 → x = y) : Strict cf (sorted cf l) ∧ ∀ x, x ∈ sorted cf l ↔ x ∈ l := by
  obtain ⟨h1, h2⟩ := sorted_go h l [] (fun x hx y hy => hi x (by simpa using hx) y (by simpa using hy)) List.Pairwise.nil
  exact ⟨h1, fun x => by have := h2 x; simpa [sorted] using this⟩
variable [Inhabited β]
theorem compact_is (h : Keyed cf k) (zs : List β) (hs : ∀ i j, i < j → j < zs.length → ¬ cf zs.toArray[j]! zs.toArray[i]! < 0) (hi : ∀ x ∈ zs, ∀ y ∈ zs, cf x y = 0 → x = y) :
    Strict cf (Lib.compact zs) ∧ ∀ x, x ∈ Lib.compact zs ↔ x ∈ zs := by
  have mem : ∀ j, j < zs.length → zs.toArray[j]! ∈ zs := fun j hj => by
    rw [getElem!_pos _ j (by simpa using hj)]; simp
  have key : ∀ m, m ≤ zs.length → Strict cf (compactUpTo zs.toArray m) ∧ (∀ x, x ∈ compactUpTo zs.toArray m ↔ ∃ j, j < m ∧ zs.toArray[j]! = x) ∧ (∀ x ∈ compactUpTo zs.toArray m, cf x zs.toArray[m - 1]! ≤ 0) := by
    intro m
    induction m with
    | zero => intro _; exact ⟨List.Pairwise.nil, fun x => by simp [compactUpTo], fun x hx => by simp [compactUpTo] at hx⟩
    | succ m ih =>
      intro hm
      obtain ⟨i1, i2, i3⟩ := ih (by omega)
      rw [compactUpTo_succ, Nat.add_sub_cancel]
      have step : ∀ x, (∃ j, j < m + 1 ∧ zs.toArray[j]! = x) ↔ (∃ j, j < m ∧ zs.toArray[j]! = x) ∨ x = zs.toArray[m]! := fun x => by
        constructor
        · rintro ⟨j, hj, e⟩
          by_cases c : j = m
          · subst c; exact Or.inr e.symm
          · exact Or.inl ⟨j, by omega, e⟩
        · rintro (⟨j, hj, e⟩ | e)
          · exact ⟨j, by omega, e⟩
          · exact ⟨m, by omega, e.symm⟩
      by_cases hk : keeps zs.toArray m = true
      · have low : ∀ x ∈ compactUpTo zs.toArray m, cf x zs.toArray[m]! < 0 := by
          intro x hx
          unfold keeps at hk
          rw [decide_eq_true_iff] at hk
          rcases hk with rfl | hk
          · simp [compactUpTo] at hx
          · have hm0 : 0 < m := by
              rcases Nat.eq_zero_or_pos m with rfl | h0
              · simp [compactUpTo] at hx
              · exact h0
            have a := hs (m - 1) m (by omega) (by omega)
            have b := h.anti zs.toArray[m - 1]! zs.toArray[m]!
            have c : cf zs.toArray[m - 1]! zs.toArray[m]! ≠ 0 := fun e => hk (hi _ (mem (m - 1) (by omega)) _ (mem m (by omega)) e).symm
            exact h.le_lt (i3 x hx) (by omega)
        rw [if_pos hk]
        refine ⟨List.pairwise_append.2 ⟨i1, by simp, fun x hx y hy => ?_⟩, fun x => ?_, fun x hx => ?_⟩
        · rw [List.mem_singleton] at hy; subst hy; exact low x hx
        · rw [List.mem_append, List.mem_singleton, i2, step]
        · rw [List.mem_append, List.mem_singleton] at hx
          rcases hx with hx | rfl
          · have := low x hx; omega
          · rw [h.self]; omega
      · have hk' : keeps zs.toArray m = false := by simpa using hk
        unfold keeps at hk'
        rw [decide_eq_false_iff_not] at hk'
        have h0 : m ≠ 0 := fun e => hk' (Or.inl e)
        have e : zs.toArray[m]! = zs.toArray[m - 1]! := by
          by_cases c : zs.toArray[m]! = zs.toArray[m - 1]!
          · exact c
          · exact absurd (Or.inr c) hk'
        rw [if_neg hk, List.append_nil]
        refine ⟨i1, fun x => ?_, fun x hx => ?_⟩
        · rw [i2, step]
          constructor
          · exact Or.inl
          · rintro (h | h)
            · exact h
            · exact ⟨m - 1, by omega, by rw [h, e]⟩
        · rw [e]; exact i3 x hx
  obtain ⟨k1, k2, _⟩ := key zs.length (Nat.le_refl _)
  refine ⟨k1, fun x => ?_⟩
  unfold compact
  rw [k2]
  constructor
  · rintro ⟨j, hj, rfl⟩; exact mem j hj
  · intro hx
    obtain ⟨j, hj, e⟩ := List.getElem_of_mem hx
    exact ⟨j, hj, by rw [getElem!_pos _ j (by simpa using hj)]; simpa using e⟩
end
end Go.Proofs.YtcfeihimmboghaaGreatDoor.U

end
section
namespace Go.Proofs.YtcfeihimmboghaaGreatDoor.U
open Go Go.RowKit Go.Proofs.YtcfeihimmboghaaGreatDoorW.PrintWords Go.Proofs.YtcfeihimmboghaaGreatDoor.G
set_option linter.unusedVariables false
set_option linter.unusedSimpArgs false
theorem cmpI_impl (a b : Int) : impl_compareInts.f a b = some (cmpI a b) := by
  unfold impl_compareInts.f cmpI
  by_cases h : a < b
  · rw [if_pos h, if_pos h]
  · rw [if_neg h, if_neg h]
    by_cases h2 : b < a
    · rw [if_pos (show a > b from h2), if_pos h2]
    · rw [if_neg (show ¬ a > b from h2), if_neg h2]
theorem cmpI_spec (a b : Int) : spec_l02Less.f a b = some (cmpI a b) := by
  unfold spec_l02Less.f cmpI
  by_cases h : a < b
  · rw [if_pos h, if_pos h]
  · rw [if_neg h, if_neg h]
    by_cases h2 : b < a
    · rw [if_pos (show a > b from h2), if_pos h2]
    · rw [if_neg (show ¬ a > b from h2), if_neg h2]
theorem spec_l02Texts_eq (a b : ByteArray) : spec_l02Texts.f a b = some (Lib.compareBytes (L a) (L b)) := by
  unfold spec_l02Texts.f
  rw [toList_L, toList_L, ← text_less]
  by_cases h : Op.bytesLess (L a) (L b) = true
  · rw [if_pos h, if_pos h]
  · rw [if_neg h, if_neg h]
    by_cases h2 : Op.bytesLess (L b) (L a) = true
    · rw [if_pos h2, if_pos h2]
    · rw [if_neg h2, if_neg h2]
theorem compare_eq (a b : ByteArray) : strings_Compare.f a b = some (Lib.compareBytes (L a) (L b)) := rfl
theorem spec_l02Part_ev (a b : ByteArray) (ha : a.size ≤ 1099511627776) (hb : b.size ≤ 1099511627776) : Ev (fun k => spec_l02Part.f k a b) (cmpP (L a) (L b)) := by
  unfold spec_l02Part.f cmpP
  refine Ev.bind (spec_ReadDec_ev a ha) (Ev.bind (spec_ReadDec_ev b hb) ?_)
  by_cases h1 : 0 ≤ rdec (L a)
  · rw [if_pos h1]
    refine ev_pos h1 ?_
    by_cases h2 : 0 ≤ rdec (L b)
    · rw [if_pos h2]
      refine Ev.step (f := fun _ => some (cmpI (rdec (L a)) (rdec (L b)))) (fun k => ?_) (Ev.now _)
      rw [spec_l02Part.j0, if_pos (decide_eq_true h2), cmpI_spec]; rfl
    · rw [if_neg h2]
      refine Ev.step (f := fun _ => some (-1)) (fun k => ?_) (Ev.now _)
      rw [spec_l02Part.j0, if_neg (by simpa using h2), if_pos h1]
  · rw [if_neg h1]
    refine ev_neg h1 ?_
    by_cases h2 : 0 ≤ rdec (L b)
    · rw [if_pos h2]
      refine Ev.step (f := fun _ => some 1) (fun k => ?_) (Ev.now _)
      rw [spec_l02Part.j0, if_neg (by decide), if_neg h1, if_pos h2]
    · rw [if_neg h2]
      refine Ev.step (f := fun _ => some (Lib.compareBytes (L a) (L b))) (fun k => ?_) (Ev.now _)
      rw [spec_l02Part.j0, if_neg (by decide), if_neg h1, if_neg h2, spec_l02Texts_eq]; rfl
theorem cmpL_end (l m : List ByteArray) (i : Nat) (h : (i = l.length ∧ i ≤ m.length) ∨ (i = m.length ∧ i ≤ l.length)) : cmpL ((l.drop i).map L) ((m.drop i).map L) = cmpI l.length m.length := by
  unfold cmpI
  by_cases h1 : l.length = i
  · rw [List.drop_of_length_le (by omega)]
    by_cases h2 : m.length = i
    · rw [List.drop_of_length_le (by omega), if_neg (by omega), if_neg (by omega)]; rfl
    · rw [drop_getD m i ByteArray.empty (by omega), if_pos (by omega)]; rfl
  · rw [drop_getD l i ByteArray.empty (by omega), List.drop_of_length_le (show m.length ≤ i by omega), if_neg (by omega), if_pos (by omega)]; rfl
theorem spec_cmp_l1 (a b c : Int) (l : List ByteArray) (a' b' c' : Int) (m : List ByteArray) (hl : l.length ≤ 1048577) (hs : ∀ x ∈ l, x.size ≤ 1048576) (ht : ∀ x ∈ m, x.size ≤ 1048576) : ∀ d i, i + d = l.length → i ≤ m.length →
    Ev (fun k => spec_CompareVersion.l1 k (i : Int) a b c l a' b' c' m) (cmpL ((l.drop i).map L) ((m.drop i).map L)) := by
  intro d
  induction d with
  | zero =>
    intro i hi hm
    rw [cmpL_end l m i (Or.inl ⟨by omega, hm⟩)]
    refine Ev.step (f := fun k => spec_CompareVersion.j3 k (i : Int) false a b c l a' b' c' m) (fun k => by rw [spec_CompareVersion.l1, if_neg (by omega)]) ?_
    exact Ev.step (f := fun _ => some (cmpI l.length m.length)) (fun k => by rw [spec_CompareVersion.j3, if_neg (by decide), cmpI_spec]; rfl) (Ev.now _)
  | succ d ih =>
    intro i hi hm
    refine Ev.step (f := fun k => spec_CompareVersion.j3 k (i : Int) (decide ((i : Int) < (m.length : Int))) a b c l a' b' c' m) (fun k => by rw [spec_CompareVersion.l1, if_pos (by omega)]) ?_
    by_cases h : i < m.length
    · have e1 : rdOf ByteArray.empty l (i : Int) = l.getD i ByteArray.empty := rfl
      have e2 : rdOf ByteArray.empty m (i : Int) = m.getD i ByteArray.empty := rfl
      have p1 := hs _ (getD_mem l i ByteArray.empty (by omega))
      have p2 := ht _ (getD_mem m i ByteArray.empty h)
      rw [drop_getD l i ByteArray.empty (by omega), drop_getD m i ByteArray.empty h, List.map_cons, List.map_cons, cmpL]
      refine Ev.step (f := fun k => (spec_l02Part.f k (l.getD i ByteArray.empty) (m.getD i ByteArray.empty)).bind fun t => if t = 0 then spec_CompareVersion.l1 k ((i + 1 : Nat) : Int) a b c l a' b' c' m else some t) (fun k => ?_) (Ev.bind (spec_l02Part_ev _ _ (by omega) (by omega)) ?_)
      · rw [spec_CompareVersion.j3, if_pos (decide_eq_true (by omega)), if_pos (by omega), if_pos (by omega), if_pos (by omega), e1, e2, wa1 i (by omega)]
      · by_cases hz : cmpP (L (l.getD i ByteArray.empty)) (L (m.getD i ByteArray.empty)) = 0
        · rw [if_pos hz]; exact ev_pos hz (ih (i + 1) (by omega) (by omega))
        · rw [if_neg hz]; exact ev_neg hz (Ev.now _)
    · rw [cmpL_end l m i (Or.inr ⟨by omega, by omega⟩)]
      exact Ev.step (f := fun _ => some (cmpI l.length m.length)) (fun k => by rw [spec_CompareVersion.j3, if_neg (by rw [decide_eq_true_iff]; omega), cmpI_spec]; rfl) (Ev.now _)
theorem map_nil {l : List ByteArray} : l.map L = [] ↔ l = [] := List.map_eq_nil_iff
theorem cmp_tail (l m : List ByteArray) : (if l.map L = [] ∨ m.map L = [] then cmpI (m.map L).length (l.map L).length else cmpL (l.map L) (m.map L)) = if l = [] ∨ m = [] then cmpI m.length l.length else cmpL (l.map L) (m.map L) := by
  by_cases h : l = [] ∨ m = []
  · rw [if_pos h, if_pos (h.imp map_nil.2 map_nil.2), List.length_map, List.length_map]
  · rw [if_neg h, if_neg fun k => h (k.imp map_nil.1 map_nil.1)]
theorem spec_CompareVersion_ev (a b c : Int) (l : List ByteArray) (a' b' c' : Int) (m : List ByteArray) (hl : l.length ≤ 1048577) (hs : ∀ x ∈ l, x.size ≤ 1048576) (ht : ∀ x ∈ m, x.size ≤ 1048576) : Ev (fun k => spec_CompareVersion.f k a b c l a' b' c' m) (cmpV a b c (l.map L) a' b' c' (m.map L)) := by
  unfold spec_CompareVersion.f cmpV
  refine ev_const (cmpI_spec _ _) (ev_const (cmpI_spec _ _) (ev_const (cmpI_spec _ _) ?_))
  generalize cmpI a a' = x
  generalize cmpI b b' = y
  generalize cmpI c c' = z
  have h3 : Ev (fun k => spec_CompareVersion.l0 k [x, y, z] ((2 + 1 : Nat) : Int) a b c l a' b' c' m) (if l.map L = [] ∨ m.map L = [] then cmpI (m.map L).length (l.map L).length else cmpL (l.map L) (m.map L)) := by
    rw [cmp_tail]
    have e : ∀ k, spec_CompareVersion.l0 (k + 1) [x, y, z] ((2 + 1 : Nat) : Int) a b c l a' b' c' m = spec_CompareVersion.j1 k (decide (l = [] ∨ m = [])) a b c l a' b' c' m := fun k => by
      rw [spec_CompareVersion.l0, if_neg (by omega)]
      cases l with
      | nil => rw [if_pos (by simp)]; simp
      | cons p l =>
        rw [if_neg (by rw [List.length_cons]; omega)]
        cases m with
        | nil => simp
        | cons q m => rw [beq_eq_false_iff_ne.2 (show ¬ ((q :: m).length : Int) = 0 by rw [List.length_cons]; omega)]; simp
    refine Ev.step e ?_
    by_cases h : l = [] ∨ m = []
    · rw [if_pos h]
      exact Ev.step (f := fun _ => some (cmpI m.length l.length)) (fun k => by rw [spec_CompareVersion.j1, if_pos (decide_eq_true h), cmpI_spec]; rfl) (Ev.now _)
    · rw [if_neg h]
      refine Ev.step (fun k => ?_) (spec_cmp_l1 a b c l a' b' c' m hl hs ht l.length 0 (by omega) (by omega))
      rw [spec_CompareVersion.j1, if_neg (by simpa using h)]; rfl
  have st : ∀ (i : Nat), i < 3 → ∀ {q : Int}, Ev (fun k => spec_CompareVersion.l0 k [x, y, z] ((i + 1 : Nat) : Int) a b c l a' b' c' m) q → Ev (fun k => spec_CompareVersion.l0 k [x, y, z] (i : Int) a b c l a' b' c' m) (if rd [x, y, z] (i : Int) = 0 then q else rd [x, y, z] (i : Int)) := by
    intro i hi q hq
    by_cases h : rd [x, y, z] (i : Int) = 0
    · rw [if_pos h]
      refine Ev.step (fun k => ?_) hq
      rw [spec_CompareVersion.l0, if_pos (by omega), if_pos (by omega), if_pos (by simp; omega), if_pos h, wa1 i (by omega)]
    · rw [if_neg h]
      refine Ev.step (f := fun _ => some (rd [x, y, z] (i : Int))) (fun k => ?_) (Ev.now _)
      rw [spec_CompareVersion.l0, if_pos (by omega), if_pos (by omega), if_pos (by simp; omega), if_neg h]
  exact st 0 (by omega) (st 1 (by omega) (st 2 (by omega) h3))
theorem num_rdec {l : B} (h : preOk l = true) : isNum l = decide (0 ≤ rdec l) := by
  unfold preOk at h
  simp only [Bool.and_eq_true, Bool.or_eq_true, Bool.not_eq_true', decide_eq_true_eq] at h
  by_cases h1 : isNum l = true
  · rw [h1]
    rcases h.2.2 with h2 | h2
    · rw [h1] at h2; cases h2
    · rw [decide_eq_true h2]
  · rw [Bool.not_eq_true] at h1
    rw [h1]
    by_cases h2 : 0 ≤ rdec l
    · obtain ⟨u, _, e, _⟩ := rdec_some (l := l) (by omega)
      exfalso
      unfold isNum at h1
      rw [e] at h1
      have h3 : (Lib.decDigits u).all dgt = true := List.all_eq_true.2 (dec_dgt u)
      have h4 : (Lib.decDigits u != []) = true := bne_iff_ne.2 (dec_ne u)
      rw [h3, h4] at h1; cases h1
    · rw [decide_eq_false h2]
theorem trim0 (s : ByteArray) (hs : s.size ≤ 1048576) : strings_TrimLeft.f s (⟨#[48]⟩ : ByteArray) = some (S (stripz (L s))) := by
  unfold strings_TrimLeft.f
  rw [dif_pos (show (⟨#[48]⟩ : ByteArray).size = 1 from rfl), if_pos ⟨by decide, by omega⟩]
  rfl
theorem impl_comparePre_ev (a b : ByteArray) (ha : preOk (L a) = true) (hb : preOk (L b) = true) : Ev (fun k => impl_comparePre.f k a b) (cmpP (L a) (L b)) := by
  have la := preOk_len ha
  have lb := preOk_len hb
  rw [← size_L] at la lb
  unfold impl_comparePre.f cmpP
  refine Ev.bind (impl_isNumber_ev a (by omega)) (Ev.bind (impl_isNumber_ev b (by omega)) ?_)
  rw [num_rdec ha, num_rdec hb]
  by_cases h1 : 0 ≤ rdec (L a)
  · rw [if_pos h1]
    refine ev_pos (decide_eq_true h1) ?_
    by_cases h2 : 0 ≤ rdec (L b)
    · rw [if_pos h2]
      have hc := cmp_strip h1 h2
      refine Ev.step (f := fun _ => some (cmpI (rdec (L a)) (rdec (L b)))) (fun k => ?_) (Ev.now _)
      rw [impl_comparePre.j0, if_pos (decide_eq_true h2), trim0 a (by omega), Option.bind_some, trim0 b (by omega), Option.bind_some, cmpI_impl, Option.bind_some, size_S, size_S, compare_eq, Option.bind_some, L_S, L_S, ← hc]
      by_cases h3 : cmpI (stripz (L a)).length (stripz (L b)).length = 0
      · rw [if_pos h3, if_pos h3]
      · rw [if_neg h3, if_neg h3]
    · rw [if_neg h2]
      refine Ev.step (f := fun _ => some (-1)) (fun k => ?_) (Ev.now _)
      rw [impl_comparePre.j0, if_neg (by simpa using h2), if_pos (decide_eq_true h1)]
  · rw [if_neg h1]
    refine ev_neg (by simpa using h1) ?_
    by_cases h2 : 0 ≤ rdec (L b)
    · rw [if_pos h2]
      refine Ev.step (f := fun _ => some 1) (fun k => ?_) (Ev.now _)
      rw [impl_comparePre.j0, if_neg (by decide), if_neg (by simpa using h1), if_pos (decide_eq_true h2)]
    · rw [if_neg h2]
      refine Ev.step (f := fun _ => some (Lib.compareBytes (L a) (L b))) (fun k => ?_) (Ev.now _)
      rw [impl_comparePre.j0, if_neg (by decide), if_neg (by simpa using h1), if_neg (by simpa using h2), compare_eq]; rfl
theorem mn_nat (a b : Nat) : mn (a : Int) (b : Int) = ((min a b : Nat) : Int) := by
  unfold mn
  split <;> omega
theorem impl_cmp_l1 (a b c : Int) (l : List ByteArray) (a' b' c' : Int) (m : List ByteArray) (hl : l.length ≤ 1048577) (hs : ∀ x ∈ l, preOk (L x) = true) (ht : ∀ x ∈ m, preOk (L x) = true) : ∀ d i, i + d = min l.length m.length →
    Ev (fun k => impl_CompareVersion.l1 k ((min l.length m.length : Nat) : Int) (i : Int) a b c l a' b' c' m) (cmpL ((l.drop i).map L) ((m.drop i).map L)) := by
  intro d
  induction d with
  | zero =>
    intro i hi
    rw [cmpL_end l m i (by omega)]
    exact Ev.step (f := fun _ => some (cmpI l.length m.length)) (fun k => by rw [impl_CompareVersion.l1, if_neg (by omega), cmpI_impl]; rfl) (Ev.now _)
  | succ d ih =>
    intro i hi
    have e1 : rdOf ByteArray.empty l (i : Int) = l.getD i ByteArray.empty := rfl
    have e2 : rdOf ByteArray.empty m (i : Int) = m.getD i ByteArray.empty := rfl
    have p1 := hs _ (getD_mem l i ByteArray.empty (by omega))
    have p2 := ht _ (getD_mem m i ByteArray.empty (by omega))
    rw [drop_getD l i ByteArray.empty (by omega), drop_getD m i ByteArray.empty (by omega), List.map_cons, List.map_cons, cmpL]
    refine Ev.step (f := fun k => (impl_comparePre.f k (l.getD i ByteArray.empty) (m.getD i ByteArray.empty)).bind fun t => if t = 0 then impl_CompareVersion.l1 k ((min l.length m.length : Nat) : Int) ((i + 1 : Nat) : Int) a b c l a' b' c' m else some t) (fun k => ?_) (Ev.bind (impl_comparePre_ev _ _ p1 p2) ?_)
    · rw [impl_CompareVersion.l1, if_pos (by omega), if_pos (by omega), if_pos (by omega), if_pos (by omega), e1, e2, wa1 i (by omega)]
    · by_cases hz : cmpP (L (l.getD i ByteArray.empty)) (L (m.getD i ByteArray.empty)) = 0
      · rw [if_pos hz]; exact ev_pos hz (ih (i + 1) (by omega))
      · rw [if_neg hz]; exact ev_neg hz (Ev.now _)
theorem impl_CompareVersion_ev (a b c : Int) (l : List ByteArray) (a' b' c' : Int) (m : List ByteArray) (hl : l.length ≤ 1048577) (hs : ∀ x ∈ l, preOk (L x) = true) (ht : ∀ x ∈ m, preOk (L x) = true) : Ev (fun k => impl_CompareVersion.f k a b c l a' b' c' m) (cmpV a b c (l.map L) a' b' c' (m.map L)) := by
  unfold impl_CompareVersion.f cmpV
  refine ev_const (cmpI_impl _ _) (ev_const (cmpI_impl _ _) (ev_const (cmpI_impl _ _) (ev_some ?_)))
  generalize cmpI a a' = x
  generalize cmpI b b' = y
  generalize cmpI c c' = z
  have h3 : Ev (fun k => impl_CompareVersion.l0 k [x, y, z] (([x, y, z] : List Int).length : Int) ((2 + 1 : Nat) : Int) a b c l a' b' c' m) (if l.map L = [] ∨ m.map L = [] then cmpI (m.map L).length (l.map L).length else cmpL (l.map L) (m.map L)) := by
    rw [cmp_tail]
    have go := impl_cmp_l1 a b c l a' b' c' m hl hs ht _ 0 (Nat.zero_add _)
    by_cases h : ((((l.length : Int)) == 0) != (((m.length : Int)) == 0)) = true
    · have h' : l = [] ∨ m = [] := by
        cases l with
        | nil => exact Or.inl rfl
        | cons p l =>
          cases m with
          | nil => exact Or.inr rfl
          | cons q m =>
            exfalso
            have e1 : (((p :: l).length : Int) == 0) = false := beq_eq_false_iff_ne.2 (by rw [List.length_cons]; omega)
            have e2 : (((q :: m).length : Int) == 0) = false := beq_eq_false_iff_ne.2 (by rw [List.length_cons]; omega)
            rw [e1, e2] at h; cases h
      rw [if_pos h']
      exact Ev.step (f := fun _ => some (cmpI m.length l.length)) (fun k => by rw [impl_CompareVersion.l0, if_neg (by simp), if_pos h, cmpI_impl]; rfl) (Ev.now _)
    · have e : (if l = [] ∨ m = [] then cmpI m.length l.length else cmpL (l.map L) (m.map L)) = cmpL (l.map L) (m.map L) := by
        by_cases h' : l = [] ∨ m = []
        · have hb : l = [] ∧ m = [] := by
            cases l with
            | nil =>
              cases m with
              | nil => exact ⟨rfl, rfl⟩
              | cons q m =>
                exfalso; apply h
                have e2 : (((q :: m).length : Int) == 0) = false := beq_eq_false_iff_ne.2 (by rw [List.length_cons]; omega)
                rw [e2]; rfl
            | cons p l =>
              cases m with
              | nil =>
                exfalso; apply h
                have e1 : (((p :: l).length : Int) == 0) = false := beq_eq_false_iff_ne.2 (by rw [List.length_cons]; omega)
                rw [e1]; rfl
              | cons q m => simp at h'
          obtain ⟨rfl, rfl⟩ := hb
          rfl
        · rw [if_neg h']
      rw [e]
      refine Ev.step (fun k => ?_) go
      rw [impl_CompareVersion.l0, if_neg (by simp), if_neg h, mn_nat]; rfl
  have st : ∀ (i : Nat), i < 3 → ∀ {q : Int}, Ev (fun k => impl_CompareVersion.l0 k [x, y, z] (([x, y, z] : List Int).length : Int) ((i + 1 : Nat) : Int) a b c l a' b' c' m) q → Ev (fun k => impl_CompareVersion.l0 k [x, y, z] (([x, y, z] : List Int).length : Int) (i : Int) a b c l a' b' c' m) (if rd [x, y, z] (i : Int) = 0 then q else rd [x, y, z] (i : Int)) := by
    intro i hi q hq
    by_cases h : rd [x, y, z] (i : Int) = 0
    · rw [if_pos h]
      refine Ev.step (fun k => ?_) hq
      rw [impl_CompareVersion.l0, if_pos (by simp; omega), if_pos (by omega), if_pos (by simp; omega), if_pos h, wa1 i (by omega)]
    · rw [if_neg h]
      refine Ev.step (f := fun _ => some (rd [x, y, z] (i : Int))) (fun k => ?_) (Ev.now _)
      rw [impl_CompareVersion.l0, if_pos (by simp; omega), if_pos (by omega), if_pos (by simp; omega), if_neg h]
  exact st 0 (by omega) (st 1 (by omega) (st 2 (by omega) h3))
theorem ver_good (l : B) : (readVer l).2.2.2.1.length ≤ 5 ∧ ∀ x ∈ (readVer l).2.2.2.1, preOk (L x) = true := by
  unfold readVer
  split
  · rename_i hc
    have hv : verOk (vpart l 0) (vpart l 1) (vpart l 2) (vpre l) = true := by
      by_cases h : verOk (vpart l 0) (vpart l 1) (vpart l 2) (vpre l) = true
      · exact h
      · exfalso
        have := hc.2
        unfold vtext at this
        rw [if_neg h] at this
        exact three_ne hc.1 this.symm
    obtain ⟨_, _, _, h5, h6⟩ := verOk_is hv
    exact ⟨h5, h6⟩
  · exact ⟨by simp [zeroV], fun x hx => by simp [zeroV] at hx⟩
theorem ver_sizes (l : B) : ∀ x ∈ (readVer l).2.2.2.1, x.size ≤ 1048576 := fun x hx => by
  have := preOk_len ((ver_good l).2 x hx)
  rw [size_L]; omega
def cmpS (x y : B) : Int := cmpV (readVer x).1 (readVer x).2.1 (readVer x).2.2.1 ((readVer x).2.2.2.1.map L) (readVer y).1 (readVer y).2.1 (readVer y).2.2.1 ((readVer y).2.2.2.1.map L)
def verK (x : B) : List Int := kV (readVer x).1 (readVer x).2.1 (readVer x).2.2.1 ((readVer x).2.2.2.1.map L)
theorem cmpS_keyed : Keyed cmpS verK := fun x y => (lex_kV _ _ _ _ _ _ _ _).symm
theorem map_L_inj : ∀ {l m : List ByteArray}, l.map L = m.map L → l = m
  | [], [], _ => rfl
  | [], _ :: _, h => by simp at h
  | _ :: _, [], h => by simp at h
  | x :: l, y :: m, h => by
    rw [List.map_cons, List.map_cons, List.cons.injEq] at h
    rw [L_inj h.1, map_L_inj h.2]
theorem cmpS_inj {x y : B} (hx : isVer x = true) (hy : isVer y = true) (h : cmpS x y = 0) : x = y := by
  obtain ⟨a, b, c, p, e1, e2⟩ := isVer_text hx
  obtain ⟨a', b', c', p', e3, e4⟩ := isVer_text hy
  unfold cmpS at h
  rw [e2, e4] at h
  obtain ⟨h1, h2, h3, h4⟩ := cmpV_zero h
  have h4' := map_L_inj h4
  simp only at h1 h2 h3 h4'
  rw [← e1, ← e3, h1, h2, h3, h4']
theorem impl_compareTexts_ev (s t : ByteArray) (hs : s.size ≤ 1048576) (ht : t.size ≤ 1048576) : Ev (fun k => impl_compareTexts.f k s t) (cmpS (L s) (L t)) := by
  unfold impl_compareTexts.f
  have h1 := ver_good (L s)
  have h2 := ver_good (L t)
  exact Ev.bind (impl_ReadVersion_ev s hs) (Ev.bind (impl_ReadVersion_ev t ht) (Ev.bind (impl_CompareVersion_ev _ _ _ _ _ _ _ _ (by omega) h1.2 h2.2) (Ev.now _)))
theorem spec_compare_ev (x y : B) : Ev (fun k => spec_CompareVersion.f k (readVer x).1 (readVer x).2.1 (readVer x).2.2.1 (readVer x).2.2.2.1 (readVer y).1 (readVer y).2.1 (readVer y).2.2.1 (readVer y).2.2.2.1) (cmpS x y) :=
  spec_CompareVersion_ev _ _ _ _ _ _ _ _ (by have := (ver_good x).1; omega) (ver_sizes x) (ver_sizes y)
end Go.Proofs.YtcfeihimmboghaaGreatDoor.U

end
section
namespace Go.Proofs.YtcfeihimmboghaaGreatDoor.G
open Go.RowKit Go.Proofs.YtcfeihimmboghaaGreatDoorW.PrintWords Go.Proofs.YtcfeihimmboghaaGreatDoorW.PrintLast Go.Proofs.YtcfeihimmboghaaGreatDoorW.PrintMore
attribute [local go_sem] max2_int min2_int max_two min_two max_three min_three max_four min_four
attribute [local go_sem high] Go.Proofs.YtcfeihimmboghaaGreatDoor.G.str_gtr Go.Proofs.YtcfeihimmboghaaGreatDoor.G.str_leq Go.Proofs.YtcfeihimmboghaaGreatDoor.G.str_geq
set_option linter.unusedVariables false
set_option linter.unusedSimpArgs false
def impl_SortVersions.f (l0 : List ByteArray) : Option (List ByteArray) := if l0.length ≤ 1048576 ∧ (∀ x ∈ l0, x.size ≤ 1048576) then some ((Go.Proofs.YtcfeihimmboghaaGreatDoor.U.sorted Go.Proofs.YtcfeihimmboghaaGreatDoor.U.cmpS ((l0.map Go.Proofs.YtcfeihimmboghaaGreatDoor.U.L).filter Go.Proofs.YtcfeihimmboghaaGreatDoor.U.isVer)).map Go.Proofs.YtcfeihimmboghaaGreatDoor.U.S) else none
def impl_Pick.l0 : Nat → List (S86) → List ByteArray → Int → Option (ByteArray)
 | 0, _, _, _ => none
 | k + 1, x1, x5, x6 => if x6 ≥ 0 then (if 0 ≤ x6 then (if x6 < (x5.length : Int) then ((impl_In.f k (rdOf ByteArray.empty x5 x6) x1).bind fun t401 => (if t401 = true then (some (rdOf ByteArray.empty x5 x6)) else (impl_Pick.l0 k x1 x5 (wrap64 (x6 - 1))))) else (none)) else (none)) else (some (⟨#[]⟩ : ByteArray))
def impl_Pick.f (k : Nat) (l0 : List ByteArray) (l1 : List (S86)) : Option (ByteArray) := (impl_SortVersions.f l0).bind fun t397 => (impl_Pick.l0 k l1 t397 (wrap64 ((t397.length : Int) - 1)))
theorem impl_Pick.mono_l : ∀ k, (∀ y0 y1 y2, LeO (impl_Pick.l0 k y0 y1 y2) (impl_Pick.l0 (k + 1) y0 y1 y2))
 | 0 => fun _ _ _ r h => by simp [impl_Pick.l0] at h
 | k + 1 => by
  have ih0 := impl_Pick.mono_l k
  ·intro y0 y1 y2
   unfold impl_Pick.l0
   repeat' first
   | (with_reducible exact ih0 _ _ _)
   | (with_reducible exact impl_In.mono _ _ _)
   | (with_reducible exact LeO.refl _)
   | (with_reducible exact LeO.none _)
   | (with_reducible refine LeO.ite ?_ ?_)
   | (with_reducible refine LeO.bind ?_ (fun _ => ?_))
   | exact ih0 _ _ _
   | exact impl_In.mono _ _ _
   | exact LeO.none _
   | refine LeO.ite ?_ ?_
   | refine LeO.bind ?_ (fun _ => ?_)
theorem impl_Pick.mono : ∀ a0 a1 k, LeO (impl_Pick.f k a0 a1) (impl_Pick.f (k + 1) a0 a1) := by
 intro a0 a1 k
 have ih0 := impl_Pick.mono_l k
 unfold impl_Pick.f
 repeat' first
   | (with_reducible exact ih0 _ _ _)
   | (with_reducible exact impl_In.mono _ _ _)
   | (with_reducible exact LeO.refl _)
   | (with_reducible exact LeO.none _)
   | (with_reducible refine LeO.ite ?_ ?_)
   | (with_reducible refine LeO.bind ?_ (fun _ => ?_))
   | exact ih0 _ _ _
   | exact impl_In.mono _ _ _
   | exact LeO.none _
   | refine LeO.ite ?_ ?_
   | refine LeO.bind ?_ (fun _ => ?_)
def laws_eqBound.f (a0_0 : ByteArray) (a0_1 : ByteArray) (a1_0 : ByteArray) (a1_1 : ByteArray) : Option (Bool) := if a0_0.toList = a1_0.toList then (if a0_1.toList = a1_1.toList then (some true) else (some false)) else (some false)
def laws_eqBoundS.l0 : Nat → List (S86) → List (S86) → Int → Option (Bool)
 | 0, _, _, _ => none
 | k + 1, x0, x1, x5 => if x5 < (x0.length : Int) then (if 0 ≤ x5 then (if x5 < (x1.length : Int) then ((laws_eqBound.f ((rd_T86 x0 x5).f0) ((rd_T86 x0 x5).f1) ((rd_T86 x1 x5).f0) ((rd_T86 x1 x5).f1)).bind fun t407 => (if t407 = true then (laws_eqBoundS.l0 k x0 x1 (wrap64 (x5 + 1))) else (some false))) else (none)) else (none)) else (some true)
def laws_eqBoundS.f (k : Nat) (l0 : List (S86)) (l1 : List (S86)) : Option (Bool) := if (l0.length : Int) = (l1.length : Int) then (laws_eqBoundS.l0 k l0 l1 0) else (some false)
theorem laws_eqBoundS.mono_l : ∀ k, (∀ y0 y1 y2, LeO (laws_eqBoundS.l0 k y0 y1 y2) (laws_eqBoundS.l0 (k + 1) y0 y1 y2))
 | 0 => fun _ _ _ r h => by simp [laws_eqBoundS.l0] at h
 | k + 1 => by
  have ih0 := laws_eqBoundS.mono_l k
  ·intro y0 y1 y2
   unfold laws_eqBoundS.l0
   repeat' first
   | (with_reducible exact ih0 _ _ _)
   | (with_reducible exact LeO.refl _)
   | (with_reducible exact LeO.none _)
   | (with_reducible refine LeO.ite ?_ ?_)
   | (with_reducible refine LeO.bind ?_ (fun _ => ?_))
   | exact ih0 _ _ _
   | exact LeO.none _
   | refine LeO.ite ?_ ?_
   | refine LeO.bind ?_ (fun _ => ?_)
theorem laws_eqBoundS.mono : ∀ a0 a1 k, LeO (laws_eqBoundS.f k a0 a1) (laws_eqBoundS.f (k + 1) a0 a1) := by
 intro a0 a1 k
 have ih0 := laws_eqBoundS.mono_l k
 unfold laws_eqBoundS.f
 repeat' first
   | (with_reducible exact ih0 _ _ _)
   | (with_reducible exact LeO.refl _)
   | (with_reducible exact LeO.none _)
   | (with_reducible refine LeO.ite ?_ ?_)
   | (with_reducible refine LeO.bind ?_ (fun _ => ?_))
   | exact ih0 _ _ _
   | exact LeO.none _
   | refine LeO.ite ?_ ?_
   | refine LeO.bind ?_ (fun _ => ?_)
def laws_FnExactPick.f (k : Nat) (l0 : List ByteArray) (l1 : List (S133)) : Option (Bool) := (laws_szStringS.f k l0 1048576).bind fun t408 => (if t408 < 0 then (some true) else ((laws_szBoundS.f k l1 t408).bind fun t409 => (if t409 < 0 then (some true) else ((laws_toStringS.f k l0).bind fun t410 => ((laws_toBoundS.f k l1).bind fun t413 => ((spec_Pick.f k t410 t413).bind fun t416 => ((laws_toStringS.f k l0).bind fun t417 => ((laws_toBoundS.f k l1).bind fun t420 => ((impl_Pick.f k t417 t420).bind fun t423 => (if t423.toList = t416.toList then ((laws_toStringS.f k l0).bind fun t424 => ((laws_eqStringS.f k t417 t424).bind fun t427 => (if t427 = true then ((laws_toBoundS.f k l1).bind fun t428 => ((laws_eqBoundS.f k t420 t428).bind fun t431 => (if t431 = true then (some true) else (some false)))) else (some false)))) else (some false)))))))))))
theorem laws_FnExactPick.mono : ∀ a0 a1 k, LeO (laws_FnExactPick.f k a0 a1) (laws_FnExactPick.f (k + 1) a0 a1) := by
 intro a0 a1 k
 unfold laws_FnExactPick.f
 repeat' first
   | (with_reducible exact impl_Pick.mono _ _ _)
   | (with_reducible exact laws_eqBoundS.mono _ _ _)
   | (with_reducible exact laws_eqStringS.mono _ _ _)
   | (with_reducible exact laws_szBoundS.mono _ _ _)
   | (with_reducible exact laws_szStringS.mono _ _ _)
   | (with_reducible exact laws_toBoundS.mono _ _)
   | (with_reducible exact laws_toStringS.mono _ _)
   | (with_reducible exact spec_Pick.mono _ _ _)
   | (with_reducible exact LeO.refl _)
   | (with_reducible exact LeO.none _)
   | (with_reducible refine LeO.ite ?_ ?_)
   | (with_reducible refine LeO.bind ?_ (fun _ => ?_))
   | exact impl_Pick.mono _ _ _
   | exact laws_eqBoundS.mono _ _ _
   | exact laws_eqStringS.mono _ _ _
   | exact laws_szBoundS.mono _ _ _
   | exact laws_szStringS.mono _ _ _
   | exact laws_toBoundS.mono _ _
   | exact laws_toStringS.mono _ _
   | exact spec_Pick.mono _ _ _
   | exact LeO.none _
   | refine LeO.ite ?_ ?_
   | refine LeO.bind ?_ (fun _ => ?_)
def laws_FnExactPick.Pure : Prop := ∀ (l0 : List ByteArray) (l1 : List (S133)), (l0.length ≤ maxLen ∧ ∀ x_ ∈ l0, x_.size ≤ maxLen) → (l1.length ≤ maxLen ∧ ∀ x_ ∈ l1, (x_.f0.size ≤ maxLen ∧ x_.f1.size ≤ maxLen)) → ∃ k, laws_FnExactPick.f k l0 l1 = some true
end Go.Proofs.YtcfeihimmboghaaGreatDoor.G

end
