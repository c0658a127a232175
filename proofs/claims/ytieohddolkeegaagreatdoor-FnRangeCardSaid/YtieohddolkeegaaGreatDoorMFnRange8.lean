/- A part of the proof that the law FnRange answers true at every input that its row speaks of. Conditions: the row's own. -/
import Derived.Test.YtieohddolkeegaaGreatDoorMFnRange7
import Derived.Test.YtieohddolkeegaaGreatDoorKFnRange0
import Derived.Lib.CountLaws
import Derived.Lib.AtoiAll
import Derived.Lib.ItoaNum
import Derived.Lib.Bytealg
import Derived.Lib.TrimByte
import Derived.Test.YtieohddolkeegaaGreatDoorKFnRange1
import Derived.Lib.Join
import Derived.Lib.IndexMore
section
namespace Go.Proofs.YtieohddolkeegaaGreatDoor.U
open Go Go.RowKit Go.Proofs.aA.aZ Go.Proofs.YtieohddolkeegaaGreatDoor.G
set_option linter.unusedVariables false
set_option linter.unusedSimpArgs false
abbrev iG : B := [32, 124, 124, 32]
theorem yH {l : B} (h : Lib.index l iG = -1) : Lib.split l iG = [l] := by
 unfold Lib.split
 rw [Lib.count_miss h]; rfl
theorem Em {l : B} {i : Nat} (h : Lib.index l iG = i) : Lib.split l iG = l.take i :: Lib.split (l.drop (i + 4)) iG := by
 unfold Lib.split
 rw [Lib.count_hit (by simp) h, show (1 : Nat) + Lib.count (l.drop (i + iG.length)) iG = Lib.count (l.drop (i + 4)) iG + 1 by rw [Nat.add_comm]; rfl]
 conv => lhs; unfold Lib.splitK
 rw [if_neg (by rw [h]; simp), h, Int.toNat_natCast]
 rfl
theorem zY (l : B) (i : Nat) : Lib.occAt l iG i = true ↔ (l.drop i).take 4 = iG := by
 unfold Lib.occAt
 rw [List.isPrefixOf_iff_prefix, List.prefix_iff_eq_take]
 exact eq_comm
theorem JE (l : B) (a j : Nat) : Lib.occAt (l.drop a) iG j = Lib.occAt l iG (a + j) := by
 unfold Lib.occAt; rw [List.drop_drop]
theorem RN (s : ByteArray) (hs : s.size ≤ 1048576) : strings_Split.f s (⟨#[32, 124, 124, 32]⟩ : ByteArray) = some ((Lib.split (L s) iG).map S) := by
 have hz : (⟨#[32, 124, 124, 32]⟩ : ByteArray) = S iG := rfl
 rw [hz]
 unfold strings_Split.f
 rw [if_pos ⟨by omega, by simp⟩]
 congr 1
 have e1 : (S iG).data.toList = iG := lQ iG
 have e2 : Lib.countB s (S iG) = Lib.count (L s) iG := by
  show Lib.count s.data.toList (S iG).data.toList = _
  rw [e1]; rfl
 have e3 := Lib.splitB_data (S iG) 0 (Lib.countB s (S iG)) s
 rw [e1] at e3
 have e5 : (Lib.splitB (S iG) 0 (Lib.countB s (S iG)) s).map L = Lib.split (L s) iG := e3.trans (by rw [e2]; rfl)
 rw [← e5, List.map_map]
 have : (S ∘ L) = (id : ByteArray → ByteArray) := by funext x; exact S_L x
 rw [this, List.map_id]
theorem Gn (s : ByteArray) (hs : s.size ≤ 1048576) : ∀ (d i a : Nat) (acc : List ByteArray), (L s).length ≤ i + d → i ≤ (L s).length → a ≤ (L s).length → acc.length ≤ i → (∀ j, a ≤ j → j < i → Lib.occAt (L s) iG j = false) →
  Ev (fun k => aj.l0 k s acc (a : Int) (i : Int)) (acc ++ (Lib.split ((L s).drop a) iG).map S) := by
 have hsz := fM s
 have fin : ∀ (i a : Nat) (acc : List ByteArray), i ≤ (L s).length → a ≤ (L s).length → acc.length ≤ i → ¬ ((i + 4 : Nat) : Int) ≤ (s.size : Int) → (∀ j, a ≤ j → j < i → Lib.occAt (L s) iG j = false) →
   Ev (fun k => aj.l0 k s acc (a : Int) (i : Int)) (acc ++ (Lib.split ((L s).drop a) iG).map S) := by
  intro i a acc hi ha hc h4 hno
  have hix : Lib.index ((L s).drop a) iG = -1 := Lib.index_none fun j hj => by
   rw [JE]
   by_cases hji : a + j < i
   ·exact hno _ (by omega) hji
   ·rw [Bool.eq_false_iff]
    intro h
    have h := (zY _ _).1 h
    have := congrArg List.length h
    rw [List.length_take, List.length_drop] at this
    simp at this; omega
  rw [yH hix]
  have e1 : s.extract ((a : Int)).toNat s.size = S ((L s).drop a) := by
   apply mD; rw [kC, lQ, Int.toNat_natCast, fM, List.take_of_length_le (by rw [List.length_drop]; omega)]
  exact Ev.step (f := fun _ => some (acc ++ [S ((L s).drop a)])) (fun k => by rw [aj.l0, wa4 i (by omega), if_neg h4, if_pos (by omega), if_pos (by omega), if_pos (by omega), e1]) (Ev.now _)
 intro d
 induction d with
 | zero => intro i a acc hi hi2 ha hc hno; exact fin i a acc hi2 ha hc (by omega) hno
 | succ d ih =>
  intro i a acc hi hi2 ha hc hno
  by_cases h : ((i + 4 : Nat) : Int) ≤ (s.size : Int)
  ·by_cases h1 : (i : Int) ≥ (a : Int)
   ·have ee : (s.extract ((i : Int)).toNat (((i + 4 : Nat) : Int)).toNat).toList = ((L s).drop i).take 4 := by
     rw [eY, kC, Int.toNat_natCast, Int.toNat_natCast, show i + 4 - i = 4 by omega]
    by_cases h2 : (s.extract ((i : Int)).toNat (((i + 4 : Nat) : Int)).toNat).toList = ([32, 124, 124, 32] : List UInt8)
    ·have YR : Lib.occAt (L s) iG i = true := (zY _ _).2 (by rw [← ee]; exact h2)
     have hix : Lib.index ((L s).drop a) iG = ((i - a : Nat) : Int) := Lib.index_first (by rw [List.length_drop]; omega) (by rw [JE, show a + (i - a) = i by omega]; exact YR) fun j hj => by
      rw [JE]; exact hno _ (by omega) (by omega)
     have e1 : s.extract ((a : Int)).toNat ((i : Int)).toNat = S (((L s).drop a).take (i - a)) := by
      apply mD; rw [kC, lQ, Int.toNat_natCast, Int.toNat_natCast]
     have hr := ih (i + 1) (i + 4) (acc ++ [S (((L s).drop a).take (i - a))]) (by omega) (by omega) (by omega) (by rw [List.length_append, List.length_singleton]; omega) (fun j h1 h2 => by omega)
     rw [Em hix, List.map_cons, List.drop_drop, show a + (i - a + 4) = i + 4 by omega]
     rw [List.append_assoc] at hr
     exact Ev.step (fun k => by rw [aj.l0, wa4 i (by omega), if_pos h, if_pos h1, if_pos (by omega), if_pos (by omega), if_pos h2, if_pos (by omega), if_pos (by omega), if_pos (by omega), if_pos (by omega), wC i (by omega), e1]) hr
    ·have hr := ih (i + 1) a acc (by omega) (by omega) ha (by omega) (fun j g1 g2 => by
      by_cases hj : j < i
      ·exact hno j g1 hj
      ·have : j = i := by omega
       subst this
       rw [Bool.eq_false_iff]
       intro ho
       exact h2 (by rw [ee]; exact (zY _ _).1 ho))
     exact Ev.step (fun k => by rw [aj.l0, wa4 i (by omega), if_pos h, if_pos h1, if_pos (by omega), if_pos (by omega), if_neg h2, wC i (by omega)]) hr
   ·have hr := ih (i + 1) a acc (by omega) (by omega) ha (by omega) (fun j g1 g2 => by omega)
    exact Ev.step (fun k => by rw [aj.l0, wa4 i (by omega), if_pos h, if_neg h1, wC i (by omega)]) hr
  ·exact fin i a acc hi2 ha hc h hno
theorem xN (s : ByteArray) (hs : s.size ≤ 1048576) : Ev (fun k => aj.f k s) ((Lib.split (L s) iG).map S) := by
 have := Gn s hs (L s).length 0 0 [] (by omega) (by omega) (by omega) (by simp) (fun j h1 h2 => by omega)
 unfold aj.f
 simpa using this
end Go.Proofs.YtieohddolkeegaaGreatDoor.U

end
section
namespace Go.Proofs.YtieohddolkeegaaGreatDoor.U
open Go Go.RowKit
set_option linter.unusedVariables false
def kY (a : Nat) : B → Nat
 | [] => a
 | c :: l => kY (a * 10 + (c.toNat - 48)) l
theorem yX : ∀ (l m : B) (a : Nat), kY a (l ++ m) = kY (kY a l) m
 | [], m, a => rfl
 | c :: l, m, a => by rw [List.cons_append]; exact yX l m _
def yG (c : UInt8) : Bool := decide (48 ≤ c.toNat ∧ c.toNat ≤ 57)
theorem uI (c : UInt8) : yG c = true ↔ 48 ≤ c.toNat ∧ c.toNat ≤ 57 := by unfold yG; exact decide_eq_true_iff
theorem JF (i : Nat) (h : i < 10) : (UInt8.ofNat (48 + i)).toNat = 48 + i := by rw [UInt8.toNat_ofNat']; omega
theorem vX (u : Nat) (h : ¬ u < 10) : Lib.decDigits u = Lib.decDigits (u / 10) ++ [UInt8.ofNat (48 + u % 10)] := by
 conv => lhs; unfold Lib.decDigits
 rw [dif_neg h]
theorem JG : ∀ (n u : Nat), u < n → (∀ c ∈ Lib.decDigits u, yG c = true) ∧ kY 0 (Lib.decDigits u) = u := by
 intro n
 induction n with
 | zero => intro u h; omega
 | succ n ih =>
  intro u hu
  by_cases h : u < 10
  ·rw [Lib.decDigits_one h]
   refine ⟨fun c hc => ?_, ?_⟩
   ·rw [List.mem_singleton] at hc; subst hc; rw [uI, JF u h]; omega
   ·show 0 * 10 + ((UInt8.ofNat (48 + u)).toNat - 48) = u
    rw [JF u h]; omega
  ·rw [vX u h]
   obtain ⟨h1, h2⟩ := ih (u / 10) (by omega)
   refine ⟨fun c hc => ?_, ?_⟩
   ·rw [List.mem_append, List.mem_singleton] at hc
    rcases hc with hc | rfl
    ·exact h1 c hc
    ·rw [uI, JF _ (Nat.mod_lt _ (by decide))]; omega
   ·rw [yX, h2]
    show (u / 10) * 10 + ((UInt8.ofNat (48 + u % 10)).toNat - 48) = u
    rw [JF _ (Nat.mod_lt _ (by decide))]; omega
theorem EO (u : Nat) : ∀ c ∈ Lib.decDigits u, yG c = true := (JG (u + 1) u (by omega)).1
theorem NY (u : Nat) : kY 0 (Lib.decDigits u) = u := (JG (u + 1) u (by omega)).2
theorem NZ (u : Nat) : Lib.decDigits u ≠ [] := by
 intro h
 have := Lib.decDigits_length u
 rw [h] at this
 have := Lib.nDigits_pos u
 simp at *; omega
theorem TD (u d : Nat) (h : (Lib.decDigits u).length ≤ d) : u < 10 ^ d := by
 rw [Lib.decDigits_length] at h
 exact Nat.lt_of_lt_of_le (Lib.lt_pow_nDigits u) (Nat.pow_le_pow_right (by decide) h)
theorem JH : ∀ (d u : Nat), u < 10 ^ (d + 1) → (Lib.decDigits u).length ≤ d + 1 := by
 intro d
 induction d with
 | zero => intro u h; rw [Lib.decDigits_one (by omega)]; simp
 | succ d ih =>
  intro u h
  by_cases h1 : u < 10
  ·rw [Lib.decDigits_one h1]; simp
  ·rw [vX u h1, List.length_append]
   have := ih (u / 10) (by rw [Nat.div_lt_iff_lt_mul (by decide)]; rw [Nat.pow_succ] at h; exact h)
   simp; omega
theorem EP : ∀ (l : B) (a : Nat), (∀ c ∈ l, yG c = true) → kY a l < (a + 1) * 10 ^ l.length
 | [], a, _ => by rw [List.length_nil, Nat.pow_zero]; show a < (a + 1) * 1; omega
 | c :: l, a, h => by
  have hc := (uI c).1 (h c (by simp))
  have := EP l (a * 10 + (c.toNat - 48)) fun x hx => h x (by simp [hx])
  refine Nat.lt_of_lt_of_le this ?_
  rw [List.length_cons, Nat.pow_succ, Nat.mul_comm (10 ^ l.length) 10, ← Nat.mul_assoc]
  exact Nat.mul_le_mul_right _ (by omega)
theorem QH : ∀ (l : B) (a : Nat), a ≤ kY a l
 | [], a => Nat.le_refl _
 | c :: l, a => Nat.le_trans (by omega) (QH l (a * 10 + (c.toNat - 48)))
def cu (l : B) : Int := if l.length ≤ 9 ∧ Lib.decDigits (kY 0 l) = l then (kY 0 l : Int) else -1
theorem p9 : (10 : Nat) ^ 9 = 1000000000 := by decide
theorem QI (u : Nat) (h : u < 1000000000) : cu (Lib.decDigits u) = u := by
 unfold cu
 have h9 : (Lib.decDigits u).length ≤ 9 := JH 8 u (by rw [show 8 + 1 = 9 from rfl, p9]; exact h)
 rw [NY, if_pos ⟨h9, rfl⟩]
theorem qf {l : B} (h : ¬ cu l = -1) : ∃ u : Nat, u < 1000000000 ∧ l = Lib.decDigits u ∧ cu l = u := by
 unfold cu at h ⊢
 by_cases hc : l.length ≤ 9 ∧ Lib.decDigits (kY 0 l) = l
 ·refine ⟨kY 0 l, ?_, hc.2.symm, by rw [if_pos hc]⟩
  rw [← p9]; exact TD _ 9 (by rw [hc.2]; exact hc.1)
 ·rw [if_neg hc] at h; exact absurd rfl h
theorem TF (l : B) : -1 ≤ cu l ∧ cu l ≤ 999999999 := by
 by_cases h : cu l = -1
 ·omega
 ·obtain ⟨u, h1, _, h2⟩ := qf h; omega
theorem ER : ∀ (l : B) (a : Nat), (∀ c ∈ l, yG c = true) → kY a l < 1844674407370955161 → Lib.parseUint10 a l = .ok (kY a l)
 | [], a, _, _ => rfl
 | c :: l, a, h, hv => by
  have hc := (uI c).1 (h c (by simp))
  have hg := QH l (a * 10 + (c.toNat - 48))
  have hv' : kY (a * 10 + (c.toNat - 48)) l < 1844674407370955161 := hv
  unfold Lib.parseUint10
  rw [if_pos hc, if_neg (by omega), if_neg (by omega)]
  exact ER l _ (fun x hx => h x (by simp [hx])) hv'
theorem Zh (u : Nat) (h : u < 1000000000) : Lib.atoiAll (Lib.decDigits u) = .ok (u : Int) := by
 have hd := EO u
 have hv := NY u
 have hne := NZ u
 generalize Lib.decDigits u = l at *
 cases l with
 | nil => exact absurd rfl hne
 | cons c r =>
  have hc := (uI c).1 (hd c (by simp))
  have hp : Lib.parseMag (c :: r) = .ok u := by
   unfold Lib.parseMag
   rw [if_neg (by simp), ER _ _ hd (by omega), hv]
  unfold Lib.atoiAll
  simp only []
  rw [if_neg (by omega), hp]
  simp only []
  rw [if_neg (by omega), if_neg (by omega), if_neg (by omega)]
end Go.Proofs.YtieohddolkeegaaGreatDoor.U

end
section
namespace Go.Proofs.YtieohddolkeegaaGreatDoor.U
open Go Go.RowKit
set_option linter.unusedVariables false
set_option linter.unusedSimpArgs false
def jC (a b : Int) : Int := if a < b then -1 else if b < a then 1 else 0
def xk (a b : B) : Int := if 0 ≤ cu a then (if 0 ≤ cu b then jC (cu a) (cu b) else -1) else (if 0 ≤ cu b then 1 else Lib.compareBytes a b)
def cmpL : List B → List B → Int
 | [], [] => 0
 | [], _ :: _ => -1
 | _ :: _, [] => 1
 | x :: l, y :: m => if xk x y = 0 then cmpL l m else xk x y
def xO (a b c : Int) (l : List B) (a' b' c' : Int) (l' : List B) : Int :=
 if jC a a' = 0 then (if jC b b' = 0 then (if jC c c' = 0 then (if l = [] ∨ l' = [] then jC l'.length l.length else cmpL l l') else jC c c') else jC b b') else jC a a'
def lex : List Int → List Int → Int
 | [], [] => 0
 | [], _ :: _ => -1
 | _ :: _, [] => 1
 | x :: l, y :: m => if x < y then -1 else if y < x then 1 else lex l m
theorem JI : ∀ l, lex l l = 0
 | [] => rfl
 | x :: l => by rw [lex, if_neg (by omega), if_neg (by omega), JI l]
theorem lex_eq : ∀ l m, lex l m = 0 → l = m
 | [], [], _ => rfl
 | [], _ :: _, h => by rw [lex] at h; omega
 | _ :: _, [], h => by rw [lex] at h; omega
 | x :: l, y :: m, h => by
  rw [lex] at h
  by_cases h1 : x < y
  ·rw [if_pos h1] at h; omega
  ·rw [if_neg h1] at h
   by_cases h2 : y < x
   ·rw [if_pos h2] at h; omega
   ·rw [if_neg h2] at h
    rw [lex_eq l m h, show x = y by omega]
theorem QJ : ∀ l m, lex l m = - lex m l
 | [], [] => rfl
 | [], _ :: _ => rfl
 | _ :: _, [] => rfl
 | x :: l, y :: m => by
  rw [lex, lex]
  by_cases h1 : x < y
  ·rw [if_pos h1, if_neg (by omega), if_pos h1]
  ·rw [if_neg h1]
   by_cases h2 : y < x
   ·rw [if_pos h2, if_pos h2]; rfl
   ·rw [if_neg h2, if_neg h2, if_neg h1, QJ l m]
theorem ES (x : Int) (l m : List Int) : lex (x :: l) (x :: m) = lex l m := by rw [lex, if_neg (by omega), if_neg (by omega)]
def kT (x : B) : List Int := x.map fun c => (c.toNat : Int) + 1
def kP (x : B) : List Int := if 0 ≤ cu x then [1, cu x] else 2 :: (kT x ++ [0])
def kL (l : List B) : List Int := l.flatMap kP ++ [0]
def kV (a b c : Int) (l : List B) : List Int := a :: b :: c :: (if l = [] then [1] else 0 :: kL l)
theorem Zi : ∀ (x y : B) (r s : List Int), lex (kT x ++ 0 :: r) (kT y ++ 0 :: s) = if Lib.compareBytes x y = 0 then lex r s else Lib.compareBytes x y
 | [], [], r, s => by rw [Lib.compareBytes, if_pos rfl]; exact ES 0 r s
 | [], y :: ys, r, s => by
  rw [Lib.compareBytes, if_neg (by omega)]
  show lex (0 :: r) (((y.toNat : Int) + 1) :: _) = -1
  rw [lex, if_pos (by omega)]
 | x :: xs, [], r, s => by
  rw [Lib.compareBytes, if_neg (by omega)]
  show lex (((x.toNat : Int) + 1) :: _) (0 :: s) = 1
  rw [lex, if_neg (by omega), if_pos (by omega)]
 | x :: xs, y :: ys, r, s => by
  show lex (((x.toNat : Int) + 1) :: (kT xs ++ 0 :: r)) (((y.toNat : Int) + 1) :: (kT ys ++ 0 :: s)) = _
  rw [lex, Lib.compareBytes]
  by_cases h1 : x < y
  ·have := UInt8.lt_iff_toNat_lt.1 h1
   rw [if_pos (by omega), if_pos h1, if_neg (by omega)]
  ·have h1' : ¬ x.toNat < y.toNat := fun h => h1 (UInt8.lt_iff_toNat_lt.2 h)
   rw [if_neg (by omega), if_neg h1]
   by_cases h2 : y < x
   ·have := UInt8.lt_iff_toNat_lt.1 h2
    rw [if_pos (by omega), if_pos h2, if_neg (by omega)]
   ·have h2' : ¬ y.toNat < x.toNat := fun h => h2 (UInt8.lt_iff_toNat_lt.2 h)
    rw [if_neg (by omega), if_neg h2]
    exact Zi xs ys r s
theorem xm {a b : Int} (h : jC a b = 0) : a = b := by
 unfold jC at h
 by_cases h1 : a < b
 ·rw [if_pos h1] at h; omega
 ·rw [if_neg h1] at h
  by_cases h2 : b < a
  ·rw [if_pos h2] at h; omega
  ·omega
theorem pK (a : Int) : jC a a = 0 := by unfold jC; rw [if_neg (by omega), if_neg (by omega)]
theorem ET (a b : Int) (r s : List Int) : lex (a :: r) (b :: s) = if jC a b = 0 then lex r s else jC a b := by
 rw [lex]
 unfold jC
 by_cases h1 : a < b
 ·rw [if_pos h1, if_pos h1, if_neg (by omega)]
 ·rw [if_neg h1, if_neg h1]
  by_cases h2 : b < a
  ·rw [if_pos h2, if_pos h2, if_neg (by omega)]
  ·rw [if_neg h2, if_neg h2, if_pos rfl]
theorem lex_kP (x y : B) (r s : List Int) : lex (kP x ++ r) (kP y ++ s) = if xk x y = 0 then lex r s else xk x y := by
 unfold kP xk
 by_cases h1 : 0 ≤ cu x
 ·rw [if_pos h1, if_pos h1]
  by_cases h2 : 0 ≤ cu y
  ·rw [if_pos h2, if_pos h2]
   show lex (1 :: cu x :: r) (1 :: cu y :: s) = _
   rw [ES, ET]
  ·rw [if_neg h2, if_neg h2]
   show lex (1 :: cu x :: r) (2 :: _) = _
   rw [lex, if_pos (by omega), if_neg (by omega)]
 ·rw [if_neg h1, if_neg h1]
  by_cases h2 : 0 ≤ cu y
  ·rw [if_pos h2, if_pos h2]
   show lex (2 :: _) (1 :: cu y :: s) = _
   rw [lex, if_neg (by omega), if_pos (by omega), if_neg (by omega)]
  ·rw [if_neg h2, if_neg h2]
   show lex (2 :: ((kT x ++ [0]) ++ r)) (2 :: ((kT y ++ [0]) ++ s)) = _
   rw [ES, List.append_assoc, List.append_assoc]
   exact Zi x y r s
theorem VG (x : B) : ∃ h t, kP x = h :: t ∧ 0 < h := by
 unfold kP
 by_cases h1 : 0 ≤ cu x
 ·rw [if_pos h1]; exact ⟨1, _, rfl, by omega⟩
 ·rw [if_neg h1]; exact ⟨2, _, rfl, by omega⟩
theorem Zj : ∀ l m : List B, lex (kL l) (kL m) = cmpL l m
 | [], [] => by rw [cmpL]; exact JI _
 | [], y :: m => by
  obtain ⟨h, t, e, hp⟩ := VG y
  unfold kL
  rw [cmpL, List.flatMap_cons, e]
  show lex (0 :: []) (h :: _) = -1
  rw [lex, if_pos hp]
 | x :: l, [] => by
  obtain ⟨h, t, e, hp⟩ := VG x
  unfold kL
  rw [cmpL, List.flatMap_cons, e]
  show lex (h :: _) (0 :: []) = 1
  rw [lex, if_neg (by omega), if_pos hp]
 | x :: l, y :: m => by
  have ih := Zj l m
  unfold kL at ih ⊢
  rw [cmpL, List.flatMap_cons, List.flatMap_cons, List.append_assoc, List.append_assoc, lex_kP, ih]
theorem lex_kV (a b c : Int) (l : List B) (a' b' c' : Int) (l' : List B) : lex (kV a b c l) (kV a' b' c' l') = xO a b c l a' b' c' l' := by
 unfold kV xO
 rw [ET, ET, ET]
 by_cases h1 : l = []
 ·subst h1
  rw [if_pos rfl, if_pos (Or.inl rfl)]
  by_cases h2 : l' = []
  ·subst h2; rw [if_pos rfl]; rfl
  ·have h3 : 0 < l'.length := by cases l' with
    | nil => exact absurd rfl h2
    | cons x m => simp
   have e1 : lex [1] (0 :: kL l') = 1 := by rw [lex, if_neg (by omega), if_pos (by omega)]
   have e2 : jC (l'.length : Int) (([] : List B).length : Int) = 1 := by unfold jC; rw [List.length_nil, if_neg (by omega), if_pos (by omega)]
   rw [if_neg h2, e1, e2]
 ·have h4 : 0 < l.length := by cases l with
    | nil => exact absurd rfl h1
    | cons x m => simp
  rw [if_neg h1]
  by_cases h2 : l' = []
  ·subst h2
   have e1 : lex (0 :: kL l) [1] = -1 := by rw [lex, if_pos (by omega)]
   have e2 : jC (([] : List B).length : Int) (l.length : Int) = -1 := by unfold jC; rw [List.length_nil, if_pos (by omega)]
   rw [if_pos rfl, if_pos (Or.inr rfl), e1, e2]
  ·rw [if_neg h2, ES, Zj, if_neg (show ¬ (l = [] ∨ l' = []) from fun h => h.elim h1 h2)]
theorem JJ : ∀ x y : B, Lib.compareBytes x y = 0 → x = y
 | [], [], _ => rfl
 | [], _ :: _, h => by rw [Lib.compareBytes] at h; omega
 | _ :: _, [], h => by rw [Lib.compareBytes] at h; omega
 | a :: x, b :: y, h => by
  rw [Lib.compareBytes] at h
  by_cases h1 : a < b
  ·rw [if_pos h1] at h; omega
  ·rw [if_neg h1] at h
   by_cases h2 : b < a
   ·rw [if_pos h2] at h; omega
   ·rw [if_neg h2] at h
    have h1' : ¬ a.toNat < b.toNat := fun h => h1 (UInt8.lt_iff_toNat_lt.2 h)
    have h2' : ¬ b.toNat < a.toNat := fun h => h2 (UInt8.lt_iff_toNat_lt.2 h)
    rw [JJ x y h, UInt8.toNat_inj.1 (show a.toNat = b.toNat by omega)]
theorem Zk {x y : B} (h : 0 ≤ cu x) (e : cu x = cu y) : x = y := by
 obtain ⟨u, _, hx, hu⟩ := qf (l := x) (by omega)
 obtain ⟨v, _, hy, hv⟩ := qf (l := y) (by omega)
 have : u = v := by omega
 rw [hx, hy, this]
theorem Wq {x y : B} (h : xk x y = 0) : x = y := by
 unfold xk at h
 by_cases h1 : 0 ≤ cu x
 ·rw [if_pos h1] at h
  by_cases h2 : 0 ≤ cu y
  ·rw [if_pos h2] at h; exact Zk h1 (xm h)
  ·rw [if_neg h2] at h; omega
 ·rw [if_neg h1] at h
  by_cases h2 : 0 ≤ cu y
  ·rw [if_pos h2] at h; omega
  ·rw [if_neg h2] at h; exact JJ x y h
theorem LY : ∀ l m : List B, cmpL l m = 0 → l = m
 | [], [], _ => rfl
 | [], _ :: _, h => by rw [cmpL] at h; omega
 | _ :: _, [], h => by rw [cmpL] at h; omega
 | x :: l, y :: m, h => by
  rw [cmpL] at h
  by_cases h1 : xk x y = 0
  ·rw [if_pos h1] at h; rw [Wq h1, LY l m h]
  ·rw [if_neg h1] at h; exact absurd h h1
theorem Ws {a b c : Int} {l : List B} {a' b' c' : Int} {l' : List B} (h : xO a b c l a' b' c' l' = 0) : a = a' ∧ b = b' ∧ c = c' ∧ l = l' := by
 unfold xO at h
 by_cases h1 : jC a a' = 0
 ·rw [if_pos h1] at h
  by_cases h2 : jC b b' = 0
  ·rw [if_pos h2] at h
   by_cases h3 : jC c c' = 0
   ·rw [if_pos h3] at h
    refine ⟨xm h1, xm h2, xm h3, ?_⟩
    by_cases h4 : l = [] ∨ l' = []
    ·rw [if_pos h4] at h
     have := xm h
     rcases h4 with rfl | rfl
     ·cases l' with
      | nil => rfl
      | cons x m => simp at this; omega
     ·cases l with
      | nil => rfl
      | cons x m => simp at this; omega
    ·rw [if_neg h4] at h; exact LY l l' h
   ·rw [if_neg h3] at h; exact absurd h h3
  ·rw [if_neg h2] at h; exact absurd h h2
 ·rw [if_neg h1] at h; exact absurd h h1
theorem JK : ∀ (x y : B) (a b : Nat), x.length = y.length → (∀ c ∈ x, yG c = true) → (∀ c ∈ y, yG c = true) → a < b → kY a x < kY b y
 | [], [], a, b, _, _, _, h => h
 | [], _ :: _, _, _, h, _, _, _ => by simp at h
 | _ :: _, [], _, _, h, _, _, _ => by simp at h
 | c :: x, d :: y, a, b, h, hx, hy, hab => by
  have hc := (uI c).1 (hx c (by simp))
  exact JK x y _ _ (by simpa using h) (fun e he => hx e (by simp [he])) (fun e he => hy e (by simp [he])) (by omega)
theorem GM : ∀ (x y : B) (a : Nat), x.length = y.length → (∀ c ∈ x, yG c = true) → (∀ c ∈ y, yG c = true) → Lib.compareBytes x y = jC (kY a x) (kY a y)
 | [], [], a, _, _, _ => (pK _).symm
 | [], _ :: _, _, h, _, _ => by simp at h
 | _ :: _, [], _, h, _, _ => by simp at h
 | c :: x, d :: y, a, h, hx, hy => by
  have hc := (uI c).1 (hx c (by simp))
  have hd := (uI d).1 (hy d (by simp))
  have hx' : ∀ e ∈ x, yG e = true := fun e he => hx e (by simp [he])
  have hy' : ∀ e ∈ y, yG e = true := fun e he => hy e (by simp [he])
  have hl : x.length = y.length := by simpa using h
  rw [Lib.compareBytes]
  show _ = jC (kY (a * 10 + (c.toNat - 48)) x) (kY (a * 10 + (d.toNat - 48)) y)
  by_cases h1 : c < d
  ·have h1' := UInt8.lt_iff_toNat_lt.1 h1
   have := JK x y (a * 10 + (c.toNat - 48)) (a * 10 + (d.toNat - 48)) hl hx' hy' (by omega)
   rw [if_pos h1]; unfold jC; rw [if_pos (by omega)]
  ·have h1' : ¬ c.toNat < d.toNat := fun h => h1 (UInt8.lt_iff_toNat_lt.2 h)
   rw [if_neg h1]
   by_cases h2 : d < c
   ·have h2' := UInt8.lt_iff_toNat_lt.1 h2
    have := JK y x (a * 10 + (d.toNat - 48)) (a * 10 + (c.toNat - 48)) hl.symm hy' hx' (by omega)
    rw [if_pos h2]; unfold jC; rw [if_neg (by omega), if_pos (by omega)]
   ·have h2' : ¬ d.toNat < c.toNat := fun h => h2 (UInt8.lt_iff_toNat_lt.2 h)
    rw [if_neg h2, show d = c from UInt8.toNat_inj.1 (by omega)]
    exact GM x y _ hl hx' hy'
def o5 (x : B) : B := Lib.trimLeftB x 48
theorem QK (u : Nat) : (∀ c ∈ o5 (Lib.decDigits u), yG c = true) ∧ kY 0 (o5 (Lib.decDigits u)) = u ∧ (∀ n, (o5 (Lib.decDigits u)).length = n + 1 → 10 ^ n ≤ u) := by
 have key : ∀ n v, v < n → 0 < v → ∃ c r, Lib.decDigits v = c :: r ∧ c ≠ 48 ∧ 10 ^ r.length ≤ v := by
  intro n
  induction n with
  | zero => intro v h; omega
  | succ n ih =>
   intro v hv h0
   by_cases h : v < 10
   ·rw [Lib.decDigits_one h]
    refine ⟨_, [], rfl, ?_, by simp; omega⟩
    intro e
    have := congrArg UInt8.toNat e
    rw [JF v h] at this
    simp at this; omega
   ·obtain ⟨c, r, e, hc, hl⟩ := ih (v / 10) (by omega) (by omega)
    rw [vX v h, e]
    refine ⟨c, r ++ [UInt8.ofNat (48 + v % 10)], rfl, hc, ?_⟩
    rw [List.length_append, List.length_singleton, Nat.pow_succ]
    have := Nat.mul_le_mul_right 10 hl
    omega
 by_cases h0 : u = 0
 ·subst h0
  have e : o5 (Lib.decDigits 0) = [] := by rw [Lib.decDigits_one (by omega)]; rfl
  rw [e]
  exact ⟨by simp, rfl, fun n h => by simp at h⟩
 ·obtain ⟨c, r, e, hc, hl⟩ := key (u + 1) u (by omega) (by omega)
  have hs : o5 (Lib.decDigits u) = Lib.decDigits u := by
   unfold o5 Lib.trimLeftB
   rw [e, List.dropWhile_cons_of_neg (by simpa using hc)]
  rw [hs]
  refine ⟨EO u, NY u, fun n h => ?_⟩
  rw [e, List.length_cons] at h
  have : r.length = n := by omega
  rw [← this]; exact hl
theorem Wu {x y : B} (hx : 0 ≤ cu x) (hy : 0 ≤ cu y) : (if jC (o5 x).length (o5 y).length = 0 then Lib.compareBytes (o5 x) (o5 y) else jC (o5 x).length (o5 y).length) = jC (cu x) (cu y) := by
 obtain ⟨u, _, ex, hu⟩ := qf (l := x) (by omega)
 obtain ⟨v, _, ey, hv⟩ := qf (l := y) (by omega)
 rw [hu, hv, ex, ey]
 obtain ⟨a1, a2, a3⟩ := QK u
 obtain ⟨b1, b2, b3⟩ := QK v
 generalize o5 (Lib.decDigits u) = p at *
 generalize o5 (Lib.decDigits v) = q at *
 have big : ∀ (p q : B) (u v : Nat), (∀ c ∈ p, yG c = true) → kY 0 p = u → (∀ n, q.length = n + 1 → 10 ^ n ≤ v) → p.length < q.length → u < v := by
  intro p q u v h1 h2 h3 h4
  have := EP p 0 h1
  rw [h2] at this
  have h5 := h3 (q.length - 1) (by omega)
  have h6 : 10 ^ p.length ≤ 10 ^ (q.length - 1) := Nat.pow_le_pow_right (by decide) (by omega)
  omega
 by_cases h : p.length = q.length
 ·have e : jC (p.length : Int) (q.length : Int) = 0 := by rw [h]; exact pK _
  rw [if_pos e, GM p q 0 h a1 b1, a2, b2]
 ·have lt : ∀ a b : Int, a < b → jC a b = -1 := fun a b h => by unfold jC; rw [if_pos h]
  have gt : ∀ a b : Int, b < a → jC a b = 1 := fun a b h => by unfold jC; rw [if_neg (by omega), if_pos h]
  by_cases h1 : p.length < q.length
  ·have := big p q u v a1 a2 b3 h1
   rw [lt _ _ (show (p.length : Int) < q.length by omega), if_neg (by omega), lt _ _ (show (u : Int) < v by omega)]
  ·have := big q p v u b1 b2 a3 (by omega)
   rw [gt _ _ (show (q.length : Int) < p.length by omega), if_neg (by omega), gt _ _ (show (v : Int) < u by omega)]
theorem Wv (a b : B) : (if Op.bytesLess a b = true then (-1 : Int) else if Op.bytesLess b a = true then 1 else 0) = Lib.compareBytes a b := by
 have h1 : ∀ a b : B, (Op.bytesLess a b = true ↔ Lib.compareBytes a b = -1) ∧ (Op.bytesLess b a = true ↔ Lib.compareBytes a b = 1) ∧ (Lib.compareBytes a b = -1 ∨ Lib.compareBytes a b = 0 ∨ Lib.compareBytes a b = 1) := by
  intro a
  induction a with
  | nil => intro b; cases b <;> simp [Op.bytesLess, Lib.compareBytes]
  | cons x a ih =>
   intro b
   cases b with
   | nil => simp [Op.bytesLess, Lib.compareBytes]
   | cons y b =>
    obtain ⟨i1, i2, i3⟩ := ih b
    rw [Op.bytesLess, Op.bytesLess, Lib.compareBytes]
    by_cases h1 : x < y
    ·have h1' := UInt8.lt_iff_toNat_lt.1 h1
     have n2 : ¬ y < x := fun h => by have := UInt8.lt_iff_toNat_lt.1 h; omega
     have n3 : ¬ y = x := fun h => by rw [h] at h1'; omega
     simp [h1, n2, n3]
    ·by_cases h2 : y < x
     ·have h2' := UInt8.lt_iff_toNat_lt.1 h2
      have n3 : ¬ x = y := fun h => by rw [h] at h2'; omega
      simp [h1, h2, n3]
     ·have h1' : ¬ x.toNat < y.toNat := fun h => h1 (UInt8.lt_iff_toNat_lt.2 h)
      have h2' : ¬ y.toNat < x.toNat := fun h => h2 (UInt8.lt_iff_toNat_lt.2 h)
      have e : x = y := UInt8.toNat_inj.1 (by omega)
      subst e
      simp [h1]
      exact ⟨i1, i2, i3⟩
 obtain ⟨i1, i2, i3⟩ := h1 a b
 by_cases c1 : Op.bytesLess a b = true
 ·rw [if_pos c1, i1.1 c1]
 ·rw [if_neg c1]
  by_cases c2 : Op.bytesLess b a = true
  ·rw [if_pos c2, i2.1 c2]
  ·rw [if_neg c2]
   rcases i3 with h | h | h
   ·exact absurd (i1.2 h) c1
   ·exact h.symm
   ·exact absurd (i2.2 h) c2
def sg (s : Nat) : Nat := (s * 6364136223846793005 + 1442695040888963407) % 9007199254740992
def itf (f : Nat → Nat) : Nat → Nat → Nat
 | 0, s => s
 | n + 1, s => itf f n (f s)
theorem N7 (f : Nat → Nat) : ∀ m n s, itf f (m + n) s = itf f n (itf f m s)
 | 0, n, s => by rw [Nat.zero_add]; rfl
 | m + 1, n, s => by rw [Nat.succ_add]; exact N7 f m n (f s)
theorem itf_one (f : Nat → Nat) (n s : Nat) : itf f (n + 1) s = f (itf f n s) := by rw [N7]; rfl
def it (n s : Nat) : Nat := itf sg n s
theorem Zl (m n s : Nat) : it (m + n) s = it n (it m s) := N7 sg m n s
theorem it_one (n s : Nat) : it (n + 1) s = sg (it n s) := itf_one sg n s
theorem Zm (f : Nat → Nat) (s : Nat) : itf f 0 s = s := rfl
theorem Zn (f : Nat → Nat) (n s : Nat) : itf f (n + 1) s = itf f n (f s) := rfl
theorem it_next (n s : Nat) : it (n + 1) s = it n (sg s) := Zn sg n s
theorem VH (s : Nat) : it 0 s = s := Zm sg s
theorem it_1 (s : Nat) : it 1 s = sg s := (it_next 0 s).trans (VH _)
def pw : Nat → Nat × Nat
 | 0 => (6364136223846793005 % 9007199254740992, 1442695040888963407 % 9007199254740992)
 | j + 1 => ((pw j).1 * (pw j).1 % 9007199254740992, ((pw j).2 * (pw j).1 + (pw j).2) % 9007199254740992)
def aff (p : Nat × Nat) (s : Nat) : Nat := (s * p.1 + p.2) % 9007199254740992
theorem Wx (p : Nat × Nat) (s M : Nat) : ((s * p.1 + p.2) % M * p.1 + p.2) % M = (s * (p.1 * p.1 % M) + (p.2 * p.1 + p.2) % M) % M := by
 have e : (s * p.1 + p.2) * p.1 + p.2 = s * (p.1 * p.1) + (p.2 * p.1 + p.2) := by rw [Nat.add_mul, Nat.mul_assoc, Nat.add_assoc]
 rw [Nat.add_mod, Nat.mod_mul_mod, ← Nat.add_mod, e, Nat.add_mod, Nat.add_mod (s * (p.1 * p.1 % M)), Nat.mul_mod_mod, Nat.mod_mod]
theorem pw0 (s : Nat) : sg s = aff (pw 0) s := by
 unfold sg aff pw
 simp only []
 omega
theorem it_pw (j : Nat) : ∀ s, it (2 ^ j) s = aff (pw j) s := by
 induction j with
 | zero => intro s; rw [Nat.pow_zero, it_1]; exact pw0 s
 | succ j ih =>
  intro s
  rw [Nat.pow_succ, Nat.mul_comm, Nat.two_mul, Zl, ih, ih]
  exact Wx (pw j) s 9007199254740992
theorem fU {j a c x y : Nat} (h : pw j = (a, c)) (hx : a * a % 9007199254740992 = x) (hy : (c * a + c) % 9007199254740992 = y) : pw (j + 1) = (x, y) := by
 show ((pw j).1 * (pw j).1 % 9007199254740992, ((pw j).2 * (pw j).1 + (pw j).2) % 9007199254740992) = (x, y)
 rw [h]; simp only []; rw [hx, hy]
theorem pw45 : pw 45 = (3518437208883201, 175921860444160) := by
 have h0 : pw 0 = (5053549999652653, 1543160130404687) := rfl
 have h1 : pw 1 = (8893545856347625, 2513558822350130) := fU h0 (by decide) (by decide)
 have h2 : pw 2 = (3723923786219025, 6222039650179508) := fU h1 (by decide) (by decide)
 have h3 : pw 3 = (8402876825156897, 412927761213096) := fU h2 (by decide) (by decide)
 have h4 : pw 4 = (8494674521800257, 8077273890007632) := fU h3 (by decide) (by decide)
 have h5 : pw 5 = (2279854088686721, 334940883470496) := fU h4 (by decide) (by decide)
 have h6 : pw 6 = (1666582322174209, 5999675586797888) := fU h5 (by decide) (by decide)
 have h7 : pw 7 = (228747937296897, 6001844078510720) := fU h6 (by decide) (by decide)
 have h8 : pw 8 = (2126514927395841, 5427765555037440) := fU h7 (by decide) (by decide)
 have h9 : pw 9 = (7541893529782273, 5814478551517696) := fU h8 (by decide) (by decide)
 have h10 : pw 10 = (5666581573898241, 209632069686272) := fU h9 (by decide) (by decide)
 have h11 : pw 11 = (5095289834381313, 2172052359882752) := fU h10 (by decide) (by decide)
 have h12 : pw 12 = (7988256871694337, 3310474618753024) := fU h11 (by decide) (by decide)
 have h13 : pw 13 = (6764801299349505, 7371009239851008) := fU h12 (by decide) (by decide)
 have h14 : pw 14 = (484980540637185, 2775706211794944) := fU h13 (by decide) (by decide)
 have h15 : pw 15 = (4101305772670977, 83331719004160) := fU h14 (by decide) (by decide)
 have h16 : pw 16 = (3839491708289025, 2219713640071168) := fU h15 (by decide) (by decide)
 have h17 : pw 17 = (8240902577848321, 5896228647337984) := fU h16 (by decide) (by decide)
 have h18 : pw 18 = (715083291295745, 8612463508717568) := fU h17 (by decide) (by decide)
 have h19 : pw 19 = (1413673908174849, 4504951873601536) := fU h18 (by decide) (by decide)
 have h20 : pw 20 = (2761377118683137, 3165999445573632) := fU h19 (by decide) (by decide)
 have h21 : pw 21 = (5258871446700033, 970780194111488) := fU h20 (by decide) (by decide)
 have h22 : pw 22 = (455012475994113, 7518283364302848) := fU h21 (by decide) (by decide)
 have h23 : pw 23 = (5695099556069377, 1314661613961216) := fU h22 (by decide) (by decide)
 have h24 : pw 24 = (3508899764240385, 1784898297790464) := fU h23 (by decide) (by decide)
 have h25 : pw 25 = (2514199901110273, 192096875053056) := fU h24 (by decide) (by decide)
 have h26 : pw 26 = (5028399802220545, 4887793377476608) := fU h25 (by decide) (by decide)
 have h27 : pw 27 = (1049600349700097, 768387500212224) := fU h26 (by decide) (by decide)
 have h28 : pw 28 = (2099200699400193, 1536775000424448) := fU h27 (by decide) (by decide)
 have h29 : pw 29 = (4198401398800385, 3073550000848896) := fU h28 (by decide) (by decide)
 have h30 : pw 30 = (8396802797600769, 6147100001697792) := fU h29 (by decide) (by decide)
 have h31 : pw 31 = (7786406340460545, 3287000748654592) := fU h30 (by decide) (by decide)
 have h32 : pw 32 = (6565613426180097, 6574001497309184) := fU h31 (by decide) (by decide)
 have h33 : pw 33 = (4124027597619201, 4140803739877376) := fU h32 (by decide) (by decide)
 have h34 : pw 34 = (8248055195238401, 8281607479754752) := fU h33 (by decide) (by decide)
 have h35 : pw 35 = (7488911135735809, 7556015704768512) := fU h34 (by decide) (by decide)
 have h36 : pw 36 = (5970623016730625, 6104832154796032) := fU h35 (by decide) (by decide)
 have h37 : pw 37 = (2934046778720257, 3202465054851072) := fU h36 (by decide) (by decide)
 have h38 : pw 38 = (5868093557440513, 6404930109702144) := fU h37 (by decide) (by decide)
 have h39 : pw 39 = (2728987860140033, 3802660964663296) := fU h38 (by decide) (by decide)
 have h40 : pw 40 = (5457975720280065, 7605321929326592) := fU h39 (by decide) (by decide)
 have h41 : pw 41 = (1908752185819137, 6203444603912192) := fU h40 (by decide) (by decide)
 have h42 : pw 42 = (3817504371638273, 3399689953083392) := fU h41 (by decide) (by decide)
 have h43 : pw 43 = (7635008743276545, 6799379906166784) := fU h42 (by decide) (by decide)
 have h44 : pw 44 = (6262818231812097, 4591560557592576) := fU h43 (by decide) (by decide)
 have h45 : pw 45 = (3518437208883201, 175921860444160) := fU h44 (by decide) (by decide)
 exact h45
theorem jump (s : Nat) (h : s < 9007199254740992) : it 35184372088832 s = (s + 35184372088832 * (100 * s + 5)) % 9007199254740992 := by
 have e : (35184372088832 : Nat) = 2 ^ 45 := by decide
 have := it_pw 45 s
 rw [← e, pw45] at this
 rw [this]
 unfold aff
 simp only []
 omega
theorem jumps (s : Nat) (h : s < 9007199254740992) : ∀ t, it (t * 35184372088832) s = (s + 35184372088832 * (t * (100 * s + 5))) % 9007199254740992 := by
 intro t
 induction t with
 | zero => rw [Nat.zero_mul, VH, Nat.zero_mul, Nat.mul_zero, Nat.add_zero, Nat.mod_eq_of_lt h]
 | succ t ih =>
  have e0 : (t + 1) * (100 * s + 5) = t * (100 * s + 5) + (100 * s + 5) := Nat.succ_mul _ _
  rw [Nat.succ_mul t 35184372088832, Zl, ih, jump _ (Nat.mod_lt _ (by decide)), e0]
  generalize t * (100 * s + 5) = X
  have hq := Nat.div_add_mod (s + 35184372088832 * X) 9007199254740992
  generalize (s + 35184372088832 * X) / 9007199254740992 = q at hq
  generalize (s + 35184372088832 * X) % 9007199254740992 = st at hq ⊢
  have e1 : st + 35184372088832 * (100 * st + 5) + 9007199254740992 * (q * 3518437208883201) = s + 35184372088832 * (X + (100 * s + 5)) + 9007199254740992 * (13743895347200 * X) := by omega
  have f1 := Nat.add_mul_mod_self_left (st + 35184372088832 * (100 * st + 5)) 9007199254740992 (q * 3518437208883201)
  have f2 := Nat.add_mul_mod_self_left (s + 35184372088832 * (X + (100 * s + 5))) 9007199254740992 (13743895347200 * X)
  rw [← f1, e1, f2]
def bx (z : Nat) : Nat := (z / 8589934592 % 256) ^^^ (z / 35184372088832 % 256)
theorem bx_lt (z : Nat) : bx z < 256 := by
 have h := Nat.xor_lt_two_pow (x := z / 8589934592 % 256) (y := z / 35184372088832 % 256) (n := 8) (Nat.mod_lt _ (by decide)) (Nat.mod_lt _ (by decide))
 exact h
theorem bx_up (z u : Nat) : bx ((z + 35184372088832 * u) % 9007199254740992) = (z / 8589934592 % 256) ^^^ ((z / 35184372088832 + u) % 256) := by
 unfold bx
 have e1 : (z + 35184372088832 * u) % 9007199254740992 / 8589934592 % 256 = z / 8589934592 % 256 := by omega
 have e2 : (z + 35184372088832 * u) % 9007199254740992 / 35184372088832 % 256 = (z / 35184372088832 + u) % 256 := by omega
 rw [e1, e2]
theorem sg_up (z u : Nat) : sg ((z + 35184372088832 * u) % 9007199254740992) = (sg z + 35184372088832 * (45 * u)) % 9007199254740992 := by
 unfold sg; omega
theorem bx_up2 (z u : Nat) : bx (sg ((z + 35184372088832 * u) % 9007199254740992)) = (sg z / 8589934592 % 256) ^^^ ((sg z / 35184372088832 + 45 * u) % 256) := by
 rw [sg_up, bx_up]
def dull (b : Nat) : Bool := b % 5 == 1 || b % 5 == 2
def dull0 (b : Nat) : Bool := dull b || b % 9 == 0
theorem n_dull : ((List.range 256).filter dull).length = 102 := by decide +kernel
theorem n_dull0 : ((List.range 256).filter dull0).length = 120 := by decide +kernel
end Go.Proofs.YtieohddolkeegaaGreatDoor.U

end
section
namespace Go.Proofs.YtieohddolkeegaaGreatDoor.U
open Go Go.RowKit Go.Proofs.aA.aZ Go.Proofs.YtieohddolkeegaaGreatDoor.G
theorem jJ (a b c : Int) : fJ.f a b c = some (decide (b ≤ a ∧ a ≤ c)) := by
 unfold fJ.f
 by_cases h : a ≥ b
 ·rw [if_pos h]; by_cases h2 : a ≤ c <;> simp [h2] <;> omega
 ·rw [if_neg h]; simp; omega
theorem o6 (a b c : Int) : iJ.f a b c = some (decide (b ≤ a ∧ a ≤ c)) := by
 unfold iJ.f
 by_cases h : b ≤ a
 ·rw [if_pos h]; by_cases h2 : a ≤ c <;> simp [h2, h]
 ·rw [if_neg h]; simp [h]
end Go.Proofs.YtieohddolkeegaaGreatDoor.U

end
section
namespace Go.Proofs.YtieohddolkeegaaGreatDoor.U
open Go Go.RowKit Go.Proofs.aA.aZ Go.Proofs.YtieohddolkeegaaGreatDoor.G
set_option linter.unusedVariables false
set_option linter.unusedSimpArgs false
theorem tJ (u : Nat) : Lib.itoa (u : Int) = Lib.decDigits u := by unfold Lib.itoa; rw [if_neg (by omega)]; simp
theorem JL {l : B} (h : ∃ c ∈ l, yG c = false) : cu l = -1 := by
 unfold cu
 rw [if_neg]
 rintro ⟨_, e⟩
 obtain ⟨c, hc, hd⟩ := h
 have := EO (kY 0 l) c (by rw [e]; exact hc)
 rw [hd] at this; cases this
theorem Wy {l : B} (h : 9 < l.length) : cu l = -1 := by
 unfold cu
 rw [if_neg]
 rintro ⟨e, _⟩; omega
theorem qM (s : ByteArray) (hs : s.size ≤ 1099511627776) : dm.f s = some (cu (L s)) := by
 unfold dm.f
 rw [if_pos (by omega)]
 show (match Lib.atoiAll (L s) with | .ok n => _ | _ => some (-1)) = _
 by_cases hr : cu (L s) = -1
 ·rw [hr]
  cases ha : Lib.atoiAll (L s) with
  | ok n =>
   simp only []
   rw [o6, Option.bind_some]
   by_cases hn : 0 ≤ n ∧ n ≤ 999999999
   ·rw [if_pos (decide_eq_true hn), nZ n (by omega) (by omega), Option.bind_some, xh, eY]
    by_cases e : Lib.itoa n = L s
    ·exfalso
     have hu : n = ((n.toNat : Nat) : Int) := by omega
     rw [hu, tJ] at e
     rw [← e, QI _ (by omega)] at hr
     omega
    ·rw [if_neg e]
   ·rw [if_neg (by simpa using hn)]
  | _ => rfl
 ·obtain ⟨u, hu, hl, hv⟩ := qf hr
  rw [hv, hl, Zh u hu]
  simp only []
  rw [o6, Option.bind_some, if_pos (decide_eq_true (by omega)), nZ _ (by omega) (by omega), Option.bind_some, xh, eY, hl, tJ, if_pos rfl]
theorem step10 (a : Nat) (c : UInt8) (ha : a < 1000000000) (hc : yG c = true) : wrap64 ((wrap64 ((wrap64 (10 * (a : Int))) + (wrap64 (c.toNat : Int)))) - 48) = ((a * 10 + (c.toNat - 48) : Nat) : Int) := by
 have h := (uI c).1 hc
 rw [rO (n := 10 * (a : Int)) (by omega) (by omega), rO (n := (c.toNat : Int)) (by omega) (by omega), rO (n := 10 * (a : Int) + (c.toNat : Int)) (by omega) (by omega), rO (by omega) (by omega)]
 omega
theorem qN (s : ByteArray) (hs : s.size ≤ 1099511627776) : Ev (fun k => bW.f k s) (cu (L s)) := by
 have hsz := fM s
 have key : ∀ (d i : Nat), i + d = (L s).length → i ≤ 9 → (∀ c ∈ (L s).take i, yG c = true) → Ev (fun k => bW.l0 k s (kY 0 ((L s).take i) : Int) (i : Int)) (cu (L s)) := by
  intro d
  induction d with
  | zero =>
   intro i hi h9 hall
   have e : (L s).take i = L s := List.take_of_length_le (by omega)
   rw [e] at hall ⊢
   have hlt : kY 0 (L s) < 1000000000 := by
    have := EP (L s) 0 hall
    have h2 : 10 ^ (L s).length ≤ 10 ^ 9 := Nat.pow_le_pow_right (by decide) (by omega)
    rw [p9] at h2; omega
   have hd := qL ((kY 0 (L s) : Nat) : Int) (by omega) (by omega)
   rw [tJ] at hd
   refine Ev.step (f := fun k => if s.toList = ([] : List UInt8) then some (-1) else (dA.f k ((kY 0 (L s) : Nat) : Int)).bind fun t => if t.toList = s.toList then some ((kY 0 (L s) : Nat) : Int) else some (-1)) (fun k => by rw [bW.l0, if_neg (by omega)]) ?_
   rw [eY]
   unfold cu
   by_cases h0 : L s = []
   ·refine aK h0 (eH (Ev.now _) ?_)
    rw [if_neg]
    rintro ⟨_, e2⟩
    rw [h0] at e2
    exact NZ _ e2
   ·refine aY h0 (Ev.bind hd ?_)
    rw [xh]
    by_cases h1 : Lib.decDigits (kY 0 (L s)) = L s
    ·exact eH (aK h1 (Ev.now _)) (if_pos ⟨by omega, h1⟩).symm
    ·exact eH (aY h1 (Ev.now _)) (if_neg (fun h => h1 h.2)).symm
  | succ d ih =>
   intro i hi h9 hall
   have hlt : i < (L s).length := by omega
   have hb : bt s (i : Int) = ((at_ (L s) i).toNat : Int) := pO s i
   have hby := VE (at_ (L s) i)
   by_cases hc : yG (at_ (L s) i) = true
   ·by_cases hl : (L s).length > 9
    ·refine Ev.step (f := fun k => some (-1)) (fun k => ?_) (eH (Ev.now _) (Wy hl).symm)
     rw [bW.l0, if_pos (by omega), if_pos (by omega), hb, jJ, Option.bind_some, rO (by omega) (by omega), if_pos (decide_eq_true (by have := (uI _).1 hc; omega)), if_pos (by omega)]
    ·have htk : (L s).take (i + 1) = (L s).take i ++ [at_ (L s) i] := take_at _ _ hlt
     have hv : kY 0 ((L s).take (i + 1)) = kY 0 ((L s).take i) * 10 + ((at_ (L s) i).toNat - 48) := by rw [htk, yX]; rfl
     have hlt9 : kY 0 ((L s).take i) < 1000000000 := by
      have := EP ((L s).take i) 0 hall
      have h2 : 10 ^ ((L s).take i).length ≤ 10 ^ 9 := Nat.pow_le_pow_right (by decide) (by rw [List.length_take]; omega)
      rw [p9] at h2; omega
     refine Ev.step (f := fun k => bW.l0 k s (kY 0 ((L s).take (i + 1)) : Int) ((i + 1 : Nat) : Int)) (fun k => ?_) (ih (i + 1) (by omega) (by omega) ?_)
     ·rw [bW.l0, if_pos (by omega), if_pos (by omega), hb, jJ, Option.bind_some, rO (n := ((at_ (L s) i).toNat : Int)) (by omega) (by omega), if_pos (decide_eq_true (by have := (uI _).1 hc; omega)), if_neg (by omega), hv, wC i (by omega)]
      have := step10 (kY 0 ((L s).take i)) (at_ (L s) i) hlt9 hc
      rw [rO (n := ((at_ (L s) i).toNat : Int)) (by omega) (by omega)] at this
      rw [this]
     ·intro c hcm
      rw [htk, List.mem_append, List.mem_singleton] at hcm
      rcases hcm with h | rfl
      ·exact hall c h
      ·exact hc
   ·have hbad : cu (L s) = -1 := JL ⟨at_ (L s) i, by rw [at_eq _ _ hlt]; exact List.getElem_mem hlt, by simpa using hc⟩
    refine Ev.step (f := fun k => some (-1)) (fun k => ?_) (eH (Ev.now _) hbad.symm)
    rw [bW.l0, if_pos (by omega), if_pos (by omega), hb, jJ, Option.bind_some, rO (by omega) (by omega), if_neg]
    rw [decide_eq_true_iff]
    intro h; exact hc ((uI _).2 (by omega))
 have := key (L s).length 0 (by omega) (by omega) (by simp)
 exact this
theorem rG {α : Type} (l : List α) (z : α) (p : α → Bool) (last : Bool) (g : Nat → Int → Option Bool) (hend : Ev (fun k => g k (l.length : Int)) last)
  (hstep : ∀ (i : Nat) (r : Bool), i < l.length → Ev (fun k => g k ((i + 1 : Nat) : Int)) r → Ev (fun k => g k (i : Int)) (p (l.getD i z) && r)) : Ev (fun k => g k 0) (l.all p && last) := by
 have key : ∀ d i, i + d = l.length → Ev (fun k => g k (i : Int)) ((l.drop i).all p && last) := by
  intro d
  induction d with
  | zero =>
   intro i hi
   have e : i = l.length := by omega
   subst e
   rw [List.drop_length]; exact hend
  | succ d ih =>
   intro i hi
   rw [mg l i z (by omega), List.all_cons, Bool.and_assoc]
   exact hstep i _ (by omega) (ih (i + 1) (by omega))
 have := key l.length 0 (by omega)
 exact this
theorem getD_at (l : B) (i : Nat) : l.getD i 0 = at_ l i := rfl
def isNum (l : B) : Bool := l.all yG && (l != [])
def TG (c : UInt8) : Bool := decide (97 ≤ c.toNat ∧ c.toNat ≤ 122) || decide (65 ≤ c.toNat ∧ c.toNat ≤ 90) || decide (48 ≤ c.toNat ∧ c.toNat ≤ 57) || c == 45
def o7 (l : B) : Bool := l.all TG && (decide (1 ≤ l.length ∧ l.length ≤ 20) && (!isNum l || decide (0 ≤ cu l)))
def uJ (n : Int) : Bool := decide (0 ≤ n ∧ n ≤ 999999999)
def gY (a b c : Int) (l : List ByteArray) : Bool := (uJ a && uJ b && uJ c) && (l.all (fun p => o7 (L p)) && decide (l.length ≤ 5))
theorem QL (c : UInt8) : fJ.f (wrap64 (c.toNat : Int)) 48 57 = some (yG c) := by
 have := VE c
 rw [jJ, rO (by omega) (by omega)]
 congr 1
 unfold yG
 by_cases h : 48 ≤ c.toNat ∧ c.toNat ≤ 57
 ·rw [decide_eq_true h, decide_eq_true (by omega)]
 ·rw [decide_eq_false h, decide_eq_false (by omega)]
theorem EU (s : ByteArray) (hs : s.size ≤ 1099511627776) : Ev (fun k => dE.f k s) (isNum (L s)) := by
 have hsz := fM s
 refine rG (L s) 0 yG ((L s) != []) (fun k i => dE.l0 k s i) ?_ ?_
 ·exact Ev.step (f := fun k => some (s.toList != ([] : List UInt8))) (fun k => by show dE.l0 (k + 1) s _ = _; rw [dE.l0, if_neg (by omega)]) (by rw [eY]; exact Ev.now _)
 ·intro i r hi hr
  rw [getD_at]
  have hb : bt s (i : Int) = ((at_ (L s) i).toNat : Int) := pO s i
  by_cases h : yG (at_ (L s) i) = true
  ·rw [h, Bool.true_and]
   refine Ev.step (fun k => ?_) hr
   show dE.l0 (k + 1) s _ = _
   rw [dE.l0, if_pos (by omega), if_pos (by omega), hb, QL, Option.bind_some, if_pos h, wC i (by omega)]
  ·refine Ev.step (f := fun k => some false) (fun k => ?_) (by simp only [Bool.not_eq_true] at h; rw [h]; exact Ev.now _)
   show dE.l0 (k + 1) s _ = _
   rw [dE.l0, if_pos (by omega), if_pos (by omega), hb, QL, Option.bind_some, if_neg h]
theorem id_spec (c : UInt8) : ∃ a b, kR.f (c.toNat : Int) = some a ∧ lJ.f (c.toNat : Int) = some b ∧ TG c = (a || b || decide ((c.toNat : Int) = 45)) := by
 have ha : ∀ c : UInt8, kR.f (c.toNat : Int) = some (decide (97 ≤ c.toNat ∧ c.toNat ≤ 122) || decide (48 ≤ c.toNat ∧ c.toNat ≤ 57)) := by refine ru ?_; decide +kernel
 have hb : ∀ c : UInt8, lJ.f (c.toNat : Int) = some (decide (65 ≤ c.toNat ∧ c.toNat ≤ 90)) := by refine ru ?_; decide +kernel
 refine ⟨_, _, ha c, hb c, ?_⟩
 revert c; refine ru ?_; decide +kernel
theorem VJ {α : Type} (c : UInt8) (x : Option α) (y : Option α) : ((kR.f (c.toNat : Int)).bind fun t289 => (if t289 = true then x else ((lJ.f (c.toNat : Int)).bind fun t290 => (if t290 = true then x else (if (c.toNat : Int) = 45 then x else y))))) = if TG c = true then x else y := by
 obtain ⟨a, b, ha, hb, hc⟩ := id_spec c
 rw [ha, hb, hc, Option.bind_some, Option.bind_some]
 cases a <;> cases b <;> simp
theorem JM (s : ByteArray) (hs : s.size ≤ 1099511627776) : Ev (fun k => dZ.f k s) (o7 (L s)) := by
 have hsz := fM s
 have hr := TF (L s)
 refine rG (L s) 0 TG _ (fun k i => dZ.l0 k s i) ?_ ?_
 ·refine Ev.step (f := fun k => (fJ.f (s.size : Int) 1 20).bind fun t286 => (if t286 = true then ((dE.f k s).bind fun t287 => (if t287 = true then ((bW.f k s).bind fun t288 => (some (decide (t288 ≥ 0)))) else (some true))) else (some false))) (fun k => by show dZ.l0 (k + 1) s _ = _; rw [dZ.l0, if_neg (by omega)]) ?_
  refine bn (jJ _ _ _) ?_
  by_cases h1 : 1 ≤ (L s).length ∧ (L s).length ≤ 20
  ·rw [decide_eq_true h1, Bool.true_and]
   refine aK (decide_eq_true (by omega)) (Ev.bind (EU s hs) ?_)
   by_cases h2 : isNum (L s) = true
   ·rw [h2, Bool.not_true, Bool.false_or]
    exact aK rfl (Ev.bind (qN s hs) (Ev.now _))
   ·refine eH (aY h2 (Ev.now _)) ?_
    simp only [Bool.not_eq_true] at h2; rw [h2]; rfl
  ·rw [decide_eq_false h1]
   exact aY (by simp; omega) (Ev.now _)
 ·intro i r hi hr
  rw [getD_at]
  have hb : bt s (i : Int) = ((at_ (L s) i).toNat : Int) := pO s i
  by_cases h : TG (at_ (L s) i) = true
  ·rw [h, Bool.true_and]
   refine Ev.step (fun k => ?_) hr
   show dZ.l0 (k + 1) s _ = _
   rw [dZ.l0, if_pos (by omega), if_pos (by omega), hb, VJ, if_pos h, wC i (by omega)]
  ·refine Ev.step (f := fun k => some false) (fun k => ?_) (by simp only [Bool.not_eq_true] at h; rw [h]; exact Ev.now _)
   show dZ.l0 (k + 1) s _ = _
   rw [dZ.l0, if_pos (by omega), if_pos (by omega), hb, VJ, if_neg h]
theorem FI (n : Int) : fJ.f n 0 999999999 = some (uJ n) := jJ _ _ _
theorem XA (n : Int) : iJ.f n 0 999999999 = some (uJ n) := o6 _ _ _
theorem len5 (n : Nat) : decide ((n : Int) ≤ 5) = decide (n ≤ 5) := by
 by_cases h : n ≤ 5
 ·rw [decide_eq_true h, decide_eq_true (by omega)]
 ·rw [decide_eq_false h, decide_eq_false (by omega)]
theorem rH (a b c : Int) (l : List ByteArray) (hl : l.length ≤ 1125899906842624) (hs : ∀ x ∈ l, x.size ≤ 1099511627776) : Ev (fun k => bP.f k a b c l) (gY a b c l) := by
 have hgo : Ev (fun k => bP.f k a b c l) (l.all (fun p => o7 (L p)) && (uJ a && (uJ b && (uJ c && decide (l.length ≤ 5))))) := by
  refine rG l ByteArray.empty (fun p => o7 (L p)) _ (fun k i => bP.l0 k i a b c l) ?_ ?_
  ·refine Ev.step (f := fun k => some (uJ a && (uJ b && (uJ c && decide (l.length ≤ 5))))) (fun k => ?_) (Ev.now _)
   show bP.l0 (k + 1) _ a b c l = _
   rw [bP.l0, if_neg (by omega), FI, FI, FI, len5]
   cases uJ a <;> cases uJ b <;> cases uJ c <;> rfl
  ·intro i r hi hr
   have hx := JM (l.getD i ByteArray.empty) (hs _ (getD_mem l i _ hi))
   refine Ev.step (f := fun k => (dZ.f k (l.getD i ByteArray.empty)).bind fun t => if t = true then bP.l0 k ((i + 1 : Nat) : Int) a b c l else some false) (fun k => ?_) (Ev.bind hx ?_)
   ·show bP.l0 (k + 1) _ a b c l = _
    rw [bP.l0, if_pos (by omega), if_pos (by omega), wC i (by omega)]; rfl
   ·by_cases h : o7 (L (l.getD i ByteArray.empty)) = true
    ·rw [h, Bool.true_and]; exact aK rfl hr
    ·simp only [Bool.not_eq_true] at h; rw [h]; exact aY (by simp) (Ev.now _)
 refine eH hgo ?_
 unfold gY
 cases uJ a <;> cases uJ b <;> cases uJ c <;> simp
theorem VK (c : UInt8) : lM.f (c.toNat : Int) = some (TG c) := by
 revert c; refine ru ?_; decide +kernel
theorem QM (c : UInt8) : lq.f (c.toNat : Int) = some (yG c) := by
 revert c; refine ru ?_; decide +kernel
theorem QN (s : ByteArray) (hs : s.size ≤ 1099511627776) : Ev (fun k => aT.f k s) ((L s).all TG) := by
 have hsz := fM s
 rw [← Bool.and_true ((L s).all TG)]
 refine rG (L s) 0 TG true (fun k i => aT.l0 k s (s.size : Int) i) ?_ ?_
 ·exact Ev.step (f := fun k => some true) (fun k => by show aT.l0 (k + 1) s _ _ = _; rw [aT.l0, if_neg (by omega)]) (Ev.now _)
 ·intro i r hi hr
  rw [getD_at]
  have hb : bt s (i : Int) = ((at_ (L s) i).toNat : Int) := pO s i
  by_cases h : TG (at_ (L s) i) = true
  ·rw [h, Bool.true_and]
   refine Ev.step (fun k => ?_) hr
   show aT.l0 (k + 1) s _ _ = _
   rw [aT.l0, if_pos (by omega), if_pos (by omega), if_pos (by omega), hb, VK, Option.bind_some, if_pos h, wC i (by omega)]
  ·refine Ev.step (f := fun k => some false) (fun k => ?_) (by simp only [Bool.not_eq_true] at h; rw [h]; exact Ev.now _)
   show aT.l0 (k + 1) s _ _ = _
   rw [aT.l0, if_pos (by omega), if_pos (by omega), if_pos (by omega), hb, VK, Option.bind_some, if_neg h]
theorem N8 (s : ByteArray) (hs : s.size ≤ 1099511627776) : Ev (fun k => ai.f k s) ((L s).all yG) := by
 have hsz := fM s
 rw [← Bool.and_true ((L s).all yG)]
 refine rG (L s) 0 yG true (fun k i => ai.l0 k s (s.size : Int) i) ?_ ?_
 ·exact Ev.step (f := fun k => some true) (fun k => by show ai.l0 (k + 1) s _ _ = _; rw [ai.l0, if_neg (by omega)]) (Ev.now _)
 ·intro i r hi hr
  rw [getD_at]
  have hb : bt s (i : Int) = ((at_ (L s) i).toNat : Int) := pO s i
  by_cases h : yG (at_ (L s) i) = true
  ·rw [h, Bool.true_and]
   refine Ev.step (fun k => ?_) hr
   show ai.l0 (k + 1) s _ _ = _
   rw [ai.l0, if_pos (by omega), if_pos (by omega), if_pos (by omega), hb, QM, Option.bind_some, if_pos h, wC i (by omega)]
  ·refine Ev.step (f := fun k => some false) (fun k => ?_) (by simp only [Bool.not_eq_true] at h; rw [h]; exact Ev.now _)
   show ai.l0 (k + 1) s _ _ = _
   rw [ai.l0, if_pos (by omega), if_pos (by omega), if_pos (by omega), hb, QM, Option.bind_some, if_neg h]
theorem ry (s : ByteArray) (hs : s.size ≤ 1099511627776) : Ev (fun k => gU.f k s) (isNum (L s)) := by
 unfold gU.f isNum
 rw [eY]
 by_cases h : L s = []
 ·refine eH (aK h (Ev.now _)) ?_
  rw [h]; rfl
 ·refine eH (aY h (Ev.bind (N8 s hs) (Ev.now _))) ?_
  have : (L s != []) = true := bne_iff_ne.2 h
  rw [this, Bool.and_true]
theorem AL (a b c : Int) (l : List ByteArray) (hl : l.length ≤ 1125899906842624) (hs : ∀ x ∈ l, x.size ≤ 1099511627776) : Ev (fun k => ay.l1 k l (l.length : Int) 0 a b c l) (l.all (fun p => o7 (L p)) && decide (l.length ≤ 5)) := by
 refine rG l ByteArray.empty (fun p => o7 (L p)) _ (fun k i => ay.l1 k l (l.length : Int) i a b c l) ?_ ?_
 ·refine Ev.step (f := fun k => some (decide (l.length ≤ 5))) (fun k => ?_) (Ev.now _)
  show ay.l1 (k + 1) l _ _ a b c l = _
  rw [ay.l1, if_neg (by omega), len5]
 ·intro i r hi hr
  have hm := hs _ (getD_mem l i ByteArray.empty hi)
  have ee : iE ByteArray.empty l (i : Int) = l.getD i ByteArray.empty := rfl
  refine Ev.step (f := fun k => (iJ.f ((l.getD i ByteArray.empty).size : Int) 1 20).bind fun t320 => (if t320 = true then ((aT.f k (l.getD i ByteArray.empty)).bind fun t321 => (if t321 = true then ((gU.f k (l.getD i ByteArray.empty)).bind fun t322 => (if t322 = true then ((dm.f (l.getD i ByteArray.empty)).bind fun t323 => (if t323 < 0 then (some false) else (ay.l1 k l (l.length : Int) ((i + 1 : Nat) : Int) a b c l))) else (ay.l1 k l (l.length : Int) ((i + 1 : Nat) : Int) a b c l))) else (some false))) else (some false))) (fun k => ?_) ?_
  ·show ay.l1 (k + 1) l _ _ a b c l = _
   rw [ay.l1, if_pos (by omega), if_pos (by omega), if_pos (by omega), wC i (by omega), ee]
  ·generalize l.getD i ByteArray.empty = s at hm ⊢
   have hsz := fM s
   refine bn (o6 _ _ _) ?_
   unfold o7
   by_cases h1 : 1 ≤ (L s).length ∧ (L s).length ≤ 20
   ·rw [decide_eq_true h1, Bool.true_and]
    refine aK (decide_eq_true (by omega)) (Ev.bind (QN s hm) ?_)
    by_cases h2 : (L s).all TG = true
    ·rw [h2, Bool.true_and]
     refine aK rfl (Ev.bind (ry s hm) ?_)
     by_cases h3 : isNum (L s) = true
     ·rw [h3, Bool.not_true, Bool.false_or]
      refine aK rfl (bn (qM s hm) ?_)
      by_cases h4 : 0 ≤ cu (L s)
      ·rw [decide_eq_true h4, Bool.true_and]; exact aY (by omega) hr
      ·rw [decide_eq_false h4, Bool.false_and]; exact aK (by omega) (Ev.now _)
     ·refine aY h3 ?_
      simp only [Bool.not_eq_true] at h3; rw [h3, Bool.not_false, Bool.true_or, Bool.true_and]; exact hr
    ·refine aY h2 ?_
     simp only [Bool.not_eq_true] at h2; rw [h2]; exact Ev.now _
   ·rw [decide_eq_false h1, Bool.false_and, Bool.and_false]
    exact aY (by simp; omega) (Ev.now _)
theorem EW (a b c : Int) (l : List ByteArray) (hl : l.length ≤ 1125899906842624) (hs : ∀ x ∈ l, x.size ≤ 1099511627776) : Ev (fun k => ay.f k a b c l) (gY a b c l) := by
 have hgo : Ev (fun k => ay.l0 k [a, b, c] ((([a, b, c] : List Int).length : Nat) : Int) 0 a b c l) (([a, b, c] : List Int).all uJ && (l.all (fun p => o7 (L p)) && decide (l.length ≤ 5))) := by
  refine rG [a, b, c] 0 uJ _ (fun k i => ay.l0 k [a, b, c] ((([a, b, c] : List Int).length : Nat) : Int) i a b c l) ?_ ?_
  ·refine Ev.step (fun k => ?_) (AL a b c l hl hs)
   show ay.l0 (k + 1) _ _ _ a b c l = _
   rw [ay.l0, if_neg (by omega)]
  ·intro i r hi hr
   have ee : rd [a, b, c] (i : Int) = ([a, b, c] : List Int).getD i 0 := rfl
   have hi3 : i < 3 := hi
   refine Ev.step (f := fun k => if uJ (([a, b, c] : List Int).getD i 0) = true then ay.l0 k [a, b, c] ((([a, b, c] : List Int).length : Nat) : Int) ((i + 1 : Nat) : Int) a b c l else some false) (fun k => ?_) ?_
   ·show ay.l0 (k + 1) _ _ _ a b c l = _
    rw [ay.l0, if_pos (by omega), if_pos (by omega), if_pos (by omega), wC i (by omega), ee, XA, Option.bind_some]
   ·by_cases h : uJ (([a, b, c] : List Int).getD i 0) = true
    ·rw [h, Bool.true_and]; exact aK rfl hr
    ·simp only [Bool.not_eq_true] at h; rw [h]; exact aY (by simp) (Ev.now _)
 refine eH (kH hgo) ?_
 unfold gY
 simp [Bool.and_assoc]
def wS (l : List ByteArray) : B := if l = [] then [] else 45 :: Lib.join (l.map L) [46]
def oN (a b c : Int) : B := Lib.itoa a ++ (46 :: (Lib.itoa b ++ (46 :: Lib.itoa c)))
def iZ (a b c : Int) (l : List ByteArray) : B := if gY a b c l = true then oN a b c ++ wS l else []
theorem N9 {n : Int} (h : uJ n = true) : 0 ≤ n ∧ n ≤ 999999999 := of_decide_eq_true h
theorem nC {a b c : Int} {l : List ByteArray} (h : gY a b c l = true) : (0 ≤ a ∧ a ≤ 999999999) ∧ (0 ≤ b ∧ b ≤ 999999999) ∧ (0 ≤ c ∧ c ≤ 999999999) ∧ l.length ≤ 5 ∧ ∀ x ∈ l, o7 (L x) = true := by
 unfold gY at h
 simp only [Bool.and_eq_true, List.all_eq_true, decide_eq_true_eq] at h
 exact ⟨N9 h.1.1.1, N9 h.1.1.2, N9 h.1.2, h.2.2, h.2.1⟩
theorem sD {l : B} (h : o7 l = true) : 1 ≤ l.length ∧ l.length ≤ 20 := by
 unfold o7 at h
 simp only [Bool.and_eq_true, decide_eq_true_eq] at h
 exact h.2.1
theorem EX {n : Int} (h : 0 ≤ n ∧ n ≤ 999999999) : (Lib.itoa n).length ≤ 9 := by
 have e : n = ((n.toNat : Nat) : Int) := by omega
 rw [e, tJ]
 exact JH 8 _ (by rw [show 8 + 1 = 9 from rfl, p9]; omega)
theorem yY : ∀ (r : List ByteArray), (∀ x ∈ r, (L x).length ≤ 20) → (Lib.joinTail [46] (r.map L)).length ≤ 21 * r.length
 | [], _ => by simp [Lib.joinTail]
 | x :: r, h => by
  have := yY r fun y hy => h y (by simp [hy])
  have hx := h x (by simp)
  unfold Lib.joinTail at *
  rw [List.map_cons, List.map_cons, List.flatten_cons, List.length_append, List.length_append, List.length_cons]
  simp at *; omega
theorem LZ {l : List ByteArray} (h5 : l.length ≤ 5) (h : ∀ x ∈ l, (L x).length ≤ 20) : (wS l).length ≤ 106 := by
 unfold wS
 cases l with
 | nil => simp
 | cons x r =>
  rw [if_neg (by simp), List.map_cons, Lib.join_cons, List.length_cons, List.length_append]
  have := yY r fun y hy => h y (by simp [hy])
  have hx := h x (by simp)
  simp at h5; omega
theorem FM {a b c : Int} (ha : 0 ≤ a ∧ a ≤ 999999999) (hb : 0 ≤ b ∧ b ≤ 999999999) (hc : 0 ≤ c ∧ c ≤ 999999999) : (oN a b c).length ≤ 29 := by
 have := EX ha; have := EX hb; have := EX hc
 unfold oN; simp; omega
theorem Ah (a b c : Int) (l : List ByteArray) : (iZ a b c l).length ≤ 135 := by
 unfold iZ
 by_cases h : gY a b c l = true
 ·obtain ⟨ha, hb, hc, h5, hl⟩ := nC h
  have := FM ha hb hc
  have := LZ h5 fun x hx => (sD (hl x hx)).2
  rw [if_pos h, List.length_append]; omega
 ·rw [if_neg h]; simp
theorem Zo (a b c : Int) : (((S (Lib.itoa a) ++ (⟨#[46]⟩ : ByteArray)) ++ S (Lib.itoa b)) ++ (⟨#[46]⟩ : ByteArray)) ++ S (Lib.itoa c) = S (oN a b c) := by
 apply mD
 rw [lQ]
 simp only [kX, lQ]
 show ((Lib.itoa a ++ [46]) ++ Lib.itoa b ++ [46]) ++ Lib.itoa c = _
 unfold oN; simp
theorem rJ (c : UInt8) : (⟨#[c]⟩ : ByteArray).size = 1 := rfl
theorem VL (acc : B) (c : UInt8) (x : ByteArray) : (S acc ++ (⟨#[c]⟩ : ByteArray)) ++ x = S (acc ++ (c :: L x)) := by
 apply mD; rw [lQ, kX, kX, lQ]
 show (acc ++ [c]) ++ L x = _
 simp
theorem Cc (a b c : Int) (l : List ByteArray) (h5 : l.length ≤ 5) (h20 : ∀ x ∈ l, (L x).length ≤ 20) : ∀ d i (acc : B), i + d = l.length → 1 ≤ i → acc.length ≤ 100 + 21 * i →
  Ev (fun k => au.l0 k (S acc) (i : Int) a b c l) (S (acc ++ Lib.joinTail [46] ((l.drop i).map L))) := by
 intro d
 induction d with
 | zero =>
  intro i acc hi h1 ha
  rw [List.drop_of_length_le (by omega)]
  refine Ev.step (f := fun k => some (S acc)) (fun k => by rw [au.l0, if_neg (by omega)]) (eH (Ev.now _) ?_)
  simp [Lib.joinTail]
 | succ d ih =>
  intro i acc hi h1 ha
  have hlt : i < l.length := by omega
  have hm := h20 _ (getD_mem l i ByteArray.empty hlt)
  have ee : iE ByteArray.empty l (i : Int) = l.getD i ByteArray.empty := rfl
  rw [mg l i ByteArray.empty hlt, List.map_cons]
  have e2 : Lib.joinTail [46] (L (l.getD i ByteArray.empty) :: (l.drop (i + 1)).map L) = (46 :: L (l.getD i ByteArray.empty)) ++ Lib.joinTail [46] ((l.drop (i + 1)).map L) := by
   unfold Lib.joinTail; rw [List.map_cons, List.flatten_cons]; rfl
  rw [e2, ← List.append_assoc]
  refine Ev.step (fun k => ?_) (ih (i + 1) _ (by omega) (by omega) (by rw [List.length_append, List.length_cons]; omega))
  rw [au.l0, if_pos (by omega), if_neg (by omega), if_pos (by rw [fD]; omega), if_pos (by omega), ee, if_pos (by rw [ByteArray.size_append, fD, rJ, fM]; omega), VL, wC i (by omega)]
theorem lF (a b c : Int) (l : List ByteArray) (hl : l.length ≤ 1125899906842624) (hs : ∀ x ∈ l, x.size ≤ 1099511627776) : Ev (fun k => au.f k a b c l) (S (iZ a b c l)) := by
 unfold au.f iZ
 refine Ev.bind (rH a b c l hl hs) ?_
 by_cases h : gY a b c l = true
 ·obtain ⟨ha, hb, hc, h5, hall⟩ := nC h
  have h20 : ∀ x ∈ l, (L x).length ≤ 20 := fun x hx => (sD (hall x hx)).2
  have la := EX ha; have lb := EX hb; have lc := EX hc
  rw [if_pos h]
  refine aK h (Ev.bind (qL a (by omega) (by omega)) (aK (by rw [fD]; omega) (Ev.bind (qL b (by omega) (by omega)) ?_)))
  refine aK (by rw [ByteArray.size_append, fD, fD, rJ]; omega) (aK (by rw [ByteArray.size_append, ByteArray.size_append, fD, fD, rJ]; omega) (Ev.bind (qL c (by omega) (by omega)) ?_))
  refine aK (by simp only [ByteArray.size_append, fD, rJ]; omega) ?_
  rw [Zo]
  have lv := FM ha hb hc
  cases l with
  | nil =>
   refine Ev.step (f := fun k => some (S (oN a b c))) (fun k => by rw [au.l0, if_neg (by simp)]) (eH (Ev.now _) ?_)
   simp [wS]
  | cons x r =>
   have hx := h20 x (by simp)
   have e2 : oN a b c ++ wS (x :: r) = (oN a b c ++ (45 :: L x)) ++ Lib.joinTail [46] (((x :: r).drop 1).map L) := by
    unfold wS
    rw [if_neg (by simp), List.map_cons, Lib.join_cons, List.append_assoc]; rfl
   rw [e2]
   refine Ev.step (fun k => ?_) (Cc a b c (x :: r) h5 h20 r.length 1 _ (by simp; omega) (by omega) (by rw [List.length_append, List.length_cons]; omega))
   have ee : iE ByteArray.empty (x :: r) 0 = x := rfl
   rw [au.l0, if_pos (by simp), if_pos rfl, if_pos (by rw [fD]; omega), if_pos (by omega), ee, if_pos (by rw [ByteArray.size_append, fD, rJ, fM]; omega), VL, show wrap64 (0 + 1) = ((1 : Nat) : Int) from wC 0 (by omega)]
 ·rw [if_neg h]
  exact aY h (Ev.now _)
theorem join_some (l : List ByteArray) (h5 : l.length ≤ 5) (h20 : ∀ x ∈ l, (L x).length ≤ 20) : strings_Join.f l (⟨#[46]⟩ : ByteArray) = some (S (Lib.join (l.map L) [46])) := by
 unfold strings_Join.f
 have e : (l.map (·.data.toList)) = l.map L := rfl
 have e2 : (⟨#[46]⟩ : ByteArray).data.toList = [46] := rfl
 rw [e, e2, if_pos]
 ·rfl
 ·refine ⟨by omega, ?_⟩
  cases l with
  | nil => simp [Lib.join, List.intercalate]
  | cons x r =>
   rw [List.map_cons, Lib.join_cons, List.length_append]
   have := yY r fun y hy => h20 y (by simp [hy])
   have hx := h20 x (by simp)
   simp at h5; omega
theorem kD (a b c : Int) (l : List ByteArray) (hl : l.length ≤ 1125899906842624) (hs : ∀ x ∈ l, x.size ≤ 1099511627776) : Ev (fun k => bU.f k a b c l) (S (iZ a b c l)) := by
 unfold bU.f iZ
 refine Ev.bind (EW a b c l hl hs) ?_
 by_cases h : gY a b c l = true
 ·obtain ⟨ha, hb, hc, h5, hall⟩ := nC h
  have h20 : ∀ x ∈ l, (L x).length ≤ 20 := fun x hx => (sD (hall x hx)).2
  have la := EX ha; have lb := EX hb; have lc := EX hc
  refine aK h ?_
  rw [if_pos h]
  refine bn (nZ a (by omega) (by omega)) ?_
  refine aK (by rw [fD]; omega) (bn (nZ b (by omega) (by omega)) ?_)
  refine aK (by rw [ByteArray.size_append, fD, fD, rJ]; omega) (aK (by rw [ByteArray.size_append, ByteArray.size_append, fD, fD, rJ]; omega) (bn (nZ c (by omega) (by omega)) ?_))
  refine aK (by simp only [ByteArray.size_append, fD, rJ]; omega) ?_
  rw [Zo]
  have lv := FM ha hb hc
  cases l with
  | nil => exact eH (aY (by simp) (Ev.now _)) (by simp [wS])
  | cons x r =>
   have lt := LZ h5 h20
   have et : wS (x :: r) = 45 :: Lib.join ((x :: r).map L) [46] := by unfold wS; rw [if_neg (by simp)]
   rw [et, List.length_cons] at lt
   rw [et]
   refine aK (by simp only [List.length_cons]; omega) ?_
   refine bn (join_some _ h5 h20) ?_
   refine aK (by rw [fD]; omega) ?_
   refine aK (by simp only [ByteArray.size_append, fD, rJ]; omega) ?_
   refine eH (Ev.now _) ?_
   apply mD
   rw [kX, kX, lQ, lQ, lQ]; rfl
 ·exact eH (aY h (Ev.now _)) (by rw [if_neg h]; rfl)
theorem EY (c : UInt8) : ∀ (l p x : B), x ∈ gJ c p l → x.length ≤ p.length + l.length := by
 intro l
 induction l with
 | nil => intro p x h; simp only [gJ, List.mem_singleton] at h; subst h; simp
 | cons y l ih =>
  intro p x h
  unfold gJ at h
  by_cases hy : y = c
  ·rw [if_pos hy, List.mem_cons] at h
   rcases h with rfl | h
   ·omega
   ·have := ih [] x h; simp at *; omega
  ·rw [if_neg hy] at h
   have := ih _ x h; simp at *; omega
def jI (l : B) : B := if 0 ≤ idx l 45 then l.take (idx l 45).toNat else l
def rU (l : B) : List ByteArray := if 0 ≤ idx l 45 then (gJ 46 [] (l.drop ((idx l 45).toNat + 1))).map S else []
def jB (l : B) (i : Nat) : Int := cu ((gJ 46 [] (jI l)).getD i [])
def zeroV : Int × Int × Int × List ByteArray × Bool := (0, 0, 0, [], false)
def aI (l : B) : Int × Int × Int × List ByteArray × Bool :=
 if (gJ 46 [] (jI l)).length = 3 ∧ iZ (jB l 0) (jB l 1) (jB l 2) (rU l) = l then (jB l 0, jB l 1, jB l 2, rU l, true) else zeroV
theorem FN (l : B) : (jI l).length ≤ l.length := by
 unfold jI; split
 ·rw [List.length_take]; omega
 ·omega
theorem JO (l : B) : (rU l).length ≤ l.length + 1 := by
 unfold rU; split
 ·rw [List.length_map]; have := (vN 46 (l.drop ((idx l 45).toNat + 1)) []).2; rw [List.length_drop] at this; omega
 ·simp
theorem JP (l : B) : ∀ x ∈ rU l, x.size ≤ l.length := by
 intro x hx
 unfold rU at hx
 split at hx
 ·obtain ⟨y, hy, rfl⟩ := List.mem_map.1 hx
  have := EY 46 _ [] y hy
  rw [fD]; simp at this; omega
 ·simp at hx
theorem yI (q : List B) (i : Nat) : iE ByteArray.empty (q.map S) (i : Int) = S (q.getD i []) := by
 show (q.map S).getD i ByteArray.empty = _
 rw [List.getD_eq_getElem?_getD, List.getD_eq_getElem?_getD, List.getElem?_map]
 cases q[i]? <;> rfl
theorem I9 (q : List B) (i n : Nat) (h : ∀ x ∈ q, x.length ≤ n) : (q.getD i []).length ≤ n := by
 rw [List.getD_eq_getElem?_getD]
 cases e : q[i]? with
 | none => simp
 | some y => exact h y (List.mem_of_getElem? e)
theorem L6 (l : B) (i : Nat) : ((gJ 46 [] (jI l)).getD i []).length ≤ l.length :=
 I9 _ _ _ fun x hx => by have := EY 46 _ [] x hx; have := FN l; simp at *; omega
theorem XB : jI [] = [] := rfl
theorem AO {l : B} (h : (gJ 46 [] (jI l)).length = 3) : l ≠ [] := by
 rintro rfl
 rw [XB] at h
 simp [gJ] at h
theorem BN (s : ByteArray) (hs : s.size ≤ 1048576) : Ev (fun k => ae.j0 k s (S (jI (L s))) 0 0 0 (rU (L s))) (aI (L s)) := by
 have hsz := fM s
 have hh := FN (L s)
 have hc := mf (S (jI (L s))) 46 (by rw [fD]; omega)
 rw [lQ] at hc
 have hp : ∀ i, (S ((gJ 46 [] (jI (L s))).getD i [])).size ≤ 1099511627776 := fun i => by have := L6 (L s) i; rw [fD]; omega
 have hd : ∀ i, Ev (fun k => bW.f k (S ((gJ 46 [] (jI (L s))).getD i []))) (jB (L s) i) := fun i => by
  have := qN _ (hp i); rw [lQ] at this; exact this
 have r0 : iE ByteArray.empty ((gJ 46 [] (jI (L s))).map S) 0 = S ((gJ 46 [] (jI (L s))).getD 0 []) := yI _ 0
 have r1 : iE ByteArray.empty ((gJ 46 [] (jI (L s))).map S) 1 = S ((gJ 46 [] (jI (L s))).getD 1 []) := yI _ 1
 have r2 : iE ByteArray.empty ((gJ 46 [] (jI (L s))).map S) 2 = S ((gJ 46 [] (jI (L s))).getD 2 []) := yI _ 2
 refine Ev.step (fun k => by rw [ae.j0]) ?_
 refine Ev.bind hc ?_
 rw [List.length_map]
 unfold aI
 by_cases h3 : (gJ 46 [] (jI (L s))).length = 3
 ·refine aK (by omega) (aK (by omega) ?_)
  rw [r0]
  refine Ev.bind (hd 0) (aK (by omega) ?_)
  rw [r1]
  refine Ev.bind (hd 1) (aK (by omega) ?_)
  rw [r2]
  refine Ev.bind (hd 2) ?_
  have hv := JO (L s); have hm := JP (L s)
  refine Ev.bind (lF _ _ _ _ (by omega) fun x hx => by have := hm x hx; omega) ?_
  rw [xh, eY]
  by_cases hv : iZ (jB (L s) 0) (jB (L s) 1) (jB (L s) 2) (rU (L s)) = L s
  ·exact eH (aK hv (Ev.now _)) (if_pos ⟨h3, hv⟩).symm
  ·exact eH (aY hv (Ev.now _)) (if_neg fun h => hv h.2).symm
 ·exact eH (aY (by omega) (Ev.now _)) (if_neg fun h => h3 h.1).symm
theorem eX (s : ByteArray) (hs : s.size ≤ 1048576) : Ev (fun k => ae.f k s) (aI (L s)) := by
 have hsz := fM s
 have h := BN s hs
 have hl := NV (L s) 45
 have hg := FH (L s) 45
 unfold ae.f
 refine Ev.bind (Jr s 45 (by omega)) ?_
 unfold jI rU at h
 by_cases h0 : 0 ≤ idx (L s) 45
 ·rw [if_pos h0, if_pos h0] at h
  have hw : wrap64 (idx (L s) 45 + 1) = (((idx (L s) 45).toNat + 1 : Nat) : Int) := by rw [rO (by omega) (by omega)]; omega
  rw [hw]
  refine aK h0 (aK h0 (aK (by omega) (aK (by omega) (aK (by omega) ?_))))
  have e1 : s.extract ((((idx (L s) 45).toNat + 1 : Nat) : Int)).toNat s.size = S ((L s).drop ((idx (L s) 45).toNat + 1)) := by
   apply mD; rw [kC, lQ, Int.toNat_natCast, fM, List.take_of_length_le (by rw [List.length_drop]; omega)]
  have e2 : s.extract 0 (idx (L s) 45).toNat = S ((L s).take (idx (L s) 45).toNat) := by
   apply mD; rw [kC, lQ, List.drop_zero, Nat.sub_zero]
  have hc := mf (S ((L s).drop ((idx (L s) 45).toNat + 1))) 46 (by rw [fD, List.length_drop]; omega)
  rw [lQ] at hc
  rw [e1, e2]
  exact Ev.bind hc h
 ·rw [if_neg h0, if_neg h0, S_L] at h
  exact aY h0 h
theorem Zp (s : ByteArray) (hs : s.size ≤ 1048576) : strings_Cut.f s (⟨#[45]⟩ : ByteArray) = some (S (jI (L s)), (if 0 ≤ idx (L s) 45 then S ((L s).drop ((idx (L s) 45).toNat + 1)) else ByteArray.empty), decide (0 ≤ idx (L s) 45)) := by
 unfold strings_Cut.f
 rw [if_pos (by omega)]
 have e : (⟨#[45]⟩ : ByteArray).data.toList = [45] := rfl
 have e2 : s.data.toList = L s := rfl
 rw [e, e2]
 unfold Lib.cut
 rw [Lib.index_one]
 show some (_, _, _) = _
 unfold jI
 by_cases h : 0 ≤ idx (L s) 45
 ·have h' : 0 ≤ Lib.indexByte (L s) 45 := h
  rw [if_pos h', if_pos h, if_pos h, decide_eq_true h]; rfl
 ·have h' : ¬ 0 ≤ Lib.indexByte (L s) 45 := h
  rw [if_neg h', if_neg h, if_neg h, decide_eq_false h]; rfl
theorem iD (s : ByteArray) (hs : s.size ≤ 1048576) : Ev (fun k => fC.f k s) (aI (L s)) := by
 have hsz := fM s
 have hh := FN (L s)
 have hl := NV (L s) 45
 have hp : ∀ i, (S ((gJ 46 [] (jI (L s))).getD i [])).size ≤ 1099511627776 := fun i => by have := L6 (L s) i; rw [fD]; omega
 have hd : ∀ i, dm.f (S ((gJ 46 [] (jI (L s))).getD i [])) = some (jB (L s) i) := fun i => by
  have := qM _ (hp i); rw [lQ] at this; exact this
 have r0 : iE ByteArray.empty ((gJ 46 [] (jI (L s))).map S) 0 = S ((gJ 46 [] (jI (L s))).getD 0 []) := yI _ 0
 have r1 : iE ByteArray.empty ((gJ 46 [] (jI (L s))).map S) 1 = S ((gJ 46 [] (jI (L s))).getD 1 []) := yI _ 1
 have r2 : iE ByteArray.empty ((gJ 46 [] (jI (L s))).map S) 2 = S ((gJ 46 [] (jI (L s))).getD 2 []) := yI _ 2
 have hsp := FD (S (jI (L s))) 46 (by rw [fD]; omega)
 rw [lQ] at hsp
 have e46 : (⟨#[46]⟩ : ByteArray) = S [46] := rfl
 unfold fC.f
 refine bn (Zp s hs) ?_
 rw [e46]
 refine bn hsp ?_
 rw [List.length_map]
 unfold aI
 by_cases h3 : (gJ 46 [] (jI (L s))).length = 3
 ·have hne := AO h3
  refine aK (by omega) (aK (by omega) ?_)
  rw [r0]
  refine bn (hd 0) (aK (by omega) ?_)
  rw [r1]
  refine bn (hd 1) (aK (by omega) ?_)
  rw [r2]
  refine bn (hd 2) ?_
  have hv := JO (L s); have hm := JP (L s)
  have ht := kD (jB (L s) 0) (jB (L s) 1) (jB (L s) 2) (rU (L s)) (by omega) fun x hx => by have := hm x hx; omega
  have fin : Ev (fun k => (bU.f k (jB (L s) 0) (jB (L s) 1) (jB (L s) 2) (rU (L s))).bind fun t => if t.toList = s.toList then (if s.toList = ([] : List UInt8) then some (0, 0, 0, ([] : List ByteArray), false) else some (jB (L s) 0, jB (L s) 1, jB (L s) 2, rU (L s), true)) else some (0, 0, 0, ([] : List ByteArray), false)) (if (gJ 46 [] (jI (L s))).length = 3 ∧ iZ (jB (L s) 0) (jB (L s) 1) (jB (L s) 2) (rU (L s)) = L s then (jB (L s) 0, jB (L s) 1, jB (L s) 2, rU (L s), true) else zeroV) := by
   refine Ev.bind ht ?_
   rw [xh, eY]
   by_cases hv : iZ (jB (L s) 0) (jB (L s) 1) (jB (L s) 2) (rU (L s)) = L s
   ·exact eH (aK hv (aY hne (Ev.now _))) (if_pos ⟨h3, hv⟩).symm
   ·exact eH (aY hv (Ev.now _)) (if_neg fun h => hv h.2).symm
  by_cases h0 : 0 ≤ idx (L s) 45
  ·have hc := FD (S ((L s).drop ((idx (L s) 45).toNat + 1))) 46 (by rw [fD, List.length_drop]; omega)
   rw [lQ] at hc
   refine aK (decide_eq_true h0) ?_
   simp only [if_pos h0]
   refine bn hc ?_
   have ev : rU (L s) = (gJ 46 [] ((L s).drop ((idx (L s) 45).toNat + 1))).map S := if_pos h0
   rw [ev] at fin ⊢
   exact fin
  ·refine aY (by simpa using h0) ?_
   have ev : rU (L s) = [] := if_neg h0
   rw [ev] at fin ⊢
   exact fin
 ·exact eH (aY (by omega) (Ev.now _)) (if_neg fun h => h3 h.1).symm
def FO (a b c : Int) (l : List ByteArray) (p : Int) : Int × Int × Int :=
 if p = 0 then (a + 1, 0, 0) else if p = 1 then (a, b + 1, 0) else (a, b, if l.length = 0 then c + 1 else c)
def Fh (a b c : Int) (l : List ByteArray) (p : Int) : Int × Int × Int × List ByteArray :=
 if gY a b c l = true ∧ 0 ≤ p ∧ p ≤ 2 ∧ gY (FO a b c l p).1 (FO a b c l p).2.1 (FO a b c l p).2.2 [] = true then ((FO a b c l p).1, (FO a b c l p).2.1, (FO a b c l p).2.2, []) else (a, b, c, l)
theorem L8 {a b c : Int} {l : List ByteArray} (h : gY a b c l = true) : (0 ≤ a ∧ a ≤ 999999999) ∧ (0 ≤ b ∧ b ≤ 999999999) ∧ (0 ≤ c ∧ c ≤ 999999999) := by
 unfold gY at h
 simp only [Bool.and_eq_true] at h
 exact ⟨of_decide_eq_true h.1.1.1, of_decide_eq_true h.1.1.2, of_decide_eq_true h.1.2⟩
theorem w1 {a : Int} (h : 0 ≤ a ∧ a ≤ 999999999) : wrap64 (a + 1) = a + 1 := rO (by omega) (by omega)
theorem Hq (a b c : Int) : Ev (fun k => bP.f k a b c ([] : List ByteArray)) (gY a b c []) := rH a b c [] (by simp) (by simp)
theorem Na {g : Nat → Option Bool} {ok : Bool} {x y : Int × Int × Int × List ByteArray} (h : Ev g ok) : Ev (fun k => (g k).bind fun t => if t = true then some x else some y) (if ok = true then x else y) := by
 refine Ev.bind h ?_
 by_cases e : ok = true
 ·exact eH (aK e (Ev.now _)) (if_pos e).symm
 ·exact eH (aY e (Ev.now _)) (if_neg e).symm
theorem yJ (a b c : Int) (l : List ByteArray) (p : Int) (hl : l.length ≤ 1048576) (hs : ∀ x ∈ l, x.size ≤ 1099511627776) : Ev (fun k => gZ.f k a b c l p) (Fh a b c l p) := by
 unfold gZ.f
 refine kH (aK (by simp only [List.length_nil]; omega) (kH (Ev.bind (rH a b c l (by omega) hs) ?_)))
 rw [List.nil_append]
 unfold Fh
 by_cases h : gY a b c l = true
 ·obtain ⟨ha, hb, hc⟩ := L8 h
  refine aK h (bn (jJ _ _ _) ?_)
  by_cases hp : 0 ≤ p ∧ p ≤ 2
  ·rw [decide_eq_true hp]
   refine Ev.step (fun k => by rw [gZ.j0]) (aY (by decide) ?_)
   unfold FO
   by_cases h0 : p = 0
   ·refine aK h0 (eH (Na (by rw [w1 ha]; exact Hq _ _ _)) ?_)
    rw [if_pos h0, w1 ha]
    by_cases e : gY (a + 1) 0 0 [] = true
    ·rw [if_pos e, if_pos ⟨h, hp.1, hp.2, e⟩]
    ·rw [if_neg e, if_neg fun z => e z.2.2.2]
   ·refine aY h0 ?_
    rw [if_neg h0]
    by_cases h1 : p = 1
    ·refine aK h1 (eH (Na (by rw [w1 hb]; exact Hq _ _ _)) ?_)
     rw [if_pos h1, w1 hb]
     by_cases e : gY a (b + 1) 0 [] = true
     ·rw [if_pos e, if_pos ⟨h, hp.1, hp.2, e⟩]
     ·rw [if_neg e, if_neg fun z => e z.2.2.2]
    ·refine aY h1 ?_
     rw [if_neg h1]
     by_cases h2 : l.length = 0
     ·refine aK (by omega) (eH (Na (by rw [w1 hc]; exact Hq _ _ _)) ?_)
      rw [if_pos h2, w1 hc]
      by_cases e : gY a b (c + 1) [] = true
      ·rw [if_pos e, if_pos ⟨h, hp.1, hp.2, e⟩]
      ·rw [if_neg e, if_neg fun z => e z.2.2.2]
     ·refine aY (by omega) (eH (Na (Hq _ _ _)) ?_)
      rw [if_neg h2]
      by_cases e : gY a b c [] = true
      ·rw [if_pos e, if_pos ⟨h, hp.1, hp.2, e⟩]
      ·rw [if_neg e, if_neg fun z => e z.2.2.2]
  ·rw [decide_eq_false hp]
   refine Ev.step (fun k => by rw [gZ.j0]) (aK (by decide) (eH (Ev.now _) ?_))
   rw [if_neg fun z => hp ⟨z.2.1, z.2.2.1⟩]
 ·refine aY h (Ev.step (fun k => by rw [gZ.j0]) (aK rfl (eH (Ev.now _) ?_)))
  rw [if_neg fun z => h z.1]
theorem Vr (a b c : Int) (l : List ByteArray) (p : Int) : (Fh a b c l p).2.2.2.length ≤ l.length := by
 unfold Fh
 split <;> simp
theorem TJ (x : Int) : Go.bits .and .i64 x 255 = x % 256 := by
 have e : (BitVec.ofInt 64 x &&& BitVec.ofInt 64 255).toNat = (x % 256).toNat := by
  rw [BitVec.toNat_and, BitVec.toNat_ofInt, BitVec.toNat_ofInt]
  have e2 : ((255 : Int) % ((2 ^ 64 : Nat) : Int)).toNat = 2 ^ 8 - 1 := by decide
  rw [e2, Nat.and_two_pow_sub_one_eq_mod]
  omega
 show IntKind.i64.wrap ((BitVec.ofInt 64 x &&& BitVec.ofInt 64 255).toNat : Int) = _
 rw [e, IntKind.wrap_i64]; omega
theorem xor255 (x y : Int) : (Go.bits .xor .i64 x y) % 256 = (((x % 256).toNat ^^^ (y % 256).toNat : Nat) : Int) := by
 have hlt : (BitVec.ofInt 64 x ^^^ BitVec.ofInt 64 y).toNat < 18446744073709551616 := (BitVec.ofInt 64 x ^^^ BitVec.ofInt 64 y).isLt
 have e : (BitVec.ofInt 64 x ^^^ BitVec.ofInt 64 y).toNat % 256 = (x % 256).toNat ^^^ (y % 256).toNat := by
  rw [BitVec.toNat_xor, show (256 : Nat) = 2 ^ 8 from rfl, Nat.xor_mod_two_pow, BitVec.toNat_ofInt, BitVec.toNat_ofInt]
  congr 1 <;> omega
 show (IntKind.i64.wrap ((BitVec.ofInt 64 x ^^^ BitVec.ofInt 64 y).toNat : Int)) % 256 = _
 rw [← e, IntKind.wrap_i64]; omega
def nh (h : Int) : Int := wrap64 ((wrap64 (h * 6364136223846793005)) + 1442695040888963407)
def st (h : Int) : Nat := (h % 9007199254740992).toNat
theorem wm (n : Int) : wrap64 n % 9007199254740992 = n % 9007199254740992 := by unfold wrap64; omega
theorem st_nh (h : Int) : st (nh h) = sg (st h) := by
 have e1 : nh h % 9007199254740992 = ((h % 9007199254740992) * 6364136223846793005 + 1442695040888963407) % 9007199254740992 := by
  unfold nh
  rw [wm, Int.add_emod, wm, ← Int.add_emod, Int.add_emod, Int.mul_emod, ← Int.emod_emod_of_dvd (h) (Int.dvd_refl 9007199254740992), ← Int.mul_emod, ← Int.add_emod, Int.emod_emod_of_dvd _ (Int.dvd_refl _)]
 unfold st sg
 rw [e1]
 have h0 : 0 ≤ h % 9007199254740992 := Int.emod_nonneg _ (by decide)
 generalize h % 9007199254740992 = z at h0
 obtain ⟨n, rfl⟩ := Int.eq_ofNat_of_zero_le h0
 rw [Int.toNat_natCast]
 have e2 : (((n : Int) * 6364136223846793005 + 1442695040888963407) % 9007199254740992) = (((n * 6364136223846793005 + 1442695040888963407) % 9007199254740992 : Nat) : Int) := by omega
 rw [e2, Int.toNat_natCast]
theorem Nb (h : Int) : (Go.bits .and .i64 (Go.bits .xor .i64 (nh h / 8589934592) (nh h / 35184372088832)) 255) = (bx (sg (st h)) : Int) := by
 rw [TJ, xor255, ← st_nh]
 unfold bx st
 congr 2 <;> omega
theorem EZ (l : List Int) (i h : Int) (hl : l.length ≤ 1099511627776) (h0 : 0 ≤ i) (hi : i ≤ l.length) :
  ∃ b i', gW.f l i h = some (b, i', nh h) ∧ 0 ≤ b ∧ b < 256 ∧ i ≤ i' ∧ i' ≤ l.length ∧ (i < l.length → i < i') ∧ (i = l.length → b = (bx (sg (st h)) : Int)) := by
 unfold gW.f
 by_cases hlt : i < (l.length : Int)
 ·rw [if_pos hlt, if_pos h0, rO (n := i + 1) (by omega) (by omega)]
  refine ⟨_, _, rfl, ?_, ?_, by omega, by omega, by omega, by omega⟩
  ·rw [TJ]; omega
  ·rw [TJ]; omega
 ·rw [if_neg hlt]
  have hb := bx_lt (sg (st h))
  refine ⟨_, _, rfl, ?_, ?_, by omega, by omega, by omega, fun _ => Nb h⟩
  ·rw [show (Go.bits .and .i64 (Go.bits .xor .i64 ((wrap64 ((wrap64 (h * 6364136223846793005)) + 1442695040888963407)) / 8589934592) ((wrap64 ((wrap64 (h * 6364136223846793005)) + 1442695040888963407)) / 35184372088832)) 255) = _ from Nb h]; omega
  ·rw [show (Go.bits .and .i64 (Go.bits .xor .i64 ((wrap64 ((wrap64 (h * 6364136223846793005)) + 1442695040888963407)) / 8589934592) ((wrap64 ((wrap64 (h * 6364136223846793005)) + 1442695040888963407)) / 35184372088832)) 255) = _ from Nb h]; omega
theorem Zq (l : List Int) (i h a : Int) (hl : l.length ≤ 1099511627776) (h0 : 0 ≤ i) (hi : i ≤ l.length) (ha : 1 ≤ a) (ha2 : a ≤ 256) :
  ∃ b i', az.f l i h a = some (b % a, i', nh h) ∧ 0 ≤ b ∧ b < 256 ∧ i ≤ i' ∧ i' ≤ l.length ∧ (i < l.length → i < i') ∧ (i = l.length → b = (bx (sg (st h)) : Int)) := by
 obtain ⟨b, i', e, b0, b1, r⟩ := EZ l i h hl h0 hi
 refine ⟨b, i', ?_, b0, b1, r⟩
 unfold az.f
 rw [if_neg (by omega), if_pos ha2, e, Option.bind_some, if_neg (by omega), Int.tmod_eq_emod_of_nonneg b0]
theorem lh (l : List Int) (i h a : Int) (hl : l.length ≤ 1099511627776) (h0 : 0 ≤ i) (hi : i ≤ l.length) (ha2 : a ≤ 4611686018427387904) :
  ∃ r i' h', az.f l i h a = some (r, i', h') ∧ 0 ≤ r ∧ (0 < a → r < a) ∧ (a ≤ 0 → r = 0) ∧ 0 ≤ i' ∧ i' ≤ l.length := by
 by_cases ha : a ≤ 0
 ·refine ⟨0, i, h, ?_, by omega, by omega, fun _ => rfl, h0, hi⟩
  unfold az.f; rw [if_pos ha]
 ·by_cases hb : a ≤ 256
  ·obtain ⟨b, i', e, b0, b1, r1, r2, _⟩ := Zq l i h a hl h0 hi (by omega) hb
   exact ⟨_, _, _, e, Int.emod_nonneg _ (by omega), fun _ => Int.emod_lt_of_pos _ (by omega), by omega, by omega, r2⟩
  ·obtain ⟨b1, i1, e1, p1, q1, r1, s1, _⟩ := EZ l i h hl h0 hi
   obtain ⟨b2, i2, e2, p2, q2, r2, s2, _⟩ := EZ l i1 (nh h) hl (by omega) s1
   obtain ⟨b3, i3, e3, p3, q3, r3, s3, _⟩ := EZ l i2 (nh (nh h)) hl (by omega) s2
   obtain ⟨b4, i4, e4, p4, q4, r4, s4, _⟩ := EZ l i3 (nh (nh (nh h))) hl (by omega) s3
   refine ⟨Int.tmod (wrap64 ((wrap64 ((wrap64 ((wrap64 (b1 * 16777216)) + (wrap64 (b2 * 65536)))) + (wrap64 (b3 * 256)))) + b4)) a, i4, nh (nh (nh (nh h))), ?_, ?_, ?_, by omega, by omega, s4⟩
   ·unfold az.f
    rw [if_neg ha, if_neg hb, e1, Option.bind_some, e2, Option.bind_some, e3, Option.bind_some, e4, Option.bind_some, if_neg (by omega)]
   ·rw [rO (n := b1 * 16777216) (by omega) (by omega), rO (n := b2 * 65536) (by omega) (by omega), rO (n := b3 * 256) (by omega) (by omega), rO (n := b1 * 16777216 + b2 * 65536) (by omega) (by omega), rO (n := b1 * 16777216 + b2 * 65536 + b3 * 256) (by omega) (by omega), rO (by omega) (by omega), Int.tmod_eq_emod_of_nonneg (by omega)]
    exact Int.emod_nonneg _ (by omega)
   ·intro _
    rw [rO (n := b1 * 16777216) (by omega) (by omega), rO (n := b2 * 65536) (by omega) (by omega), rO (n := b3 * 256) (by omega) (by omega), rO (n := b1 * 16777216 + b2 * 65536) (by omega) (by omega), rO (n := b1 * 16777216 + b2 * 65536 + b3 * 256) (by omega) (by omega), rO (by omega) (by omega), Int.tmod_eq_emod_of_nonneg (by omega)]
    exact Int.emod_lt_of_pos _ (by omega)
theorem pick_any (l : List Int) (i h : Int) (q : List ByteArray) (hl : l.length ≤ 1099511627776) (h0 : 0 ≤ i) (hi : i ≤ l.length) (hq : 1 ≤ q.length) (hq2 : q.length ≤ 256) :
  ∃ r i' h', cO.f l i h q = some (r, i', h') ∧ r ∈ q ∧ 0 ≤ i' ∧ i' ≤ l.length := by
 obtain ⟨r, i', h', e, r0, r1, _, s0, s1⟩ := lh l i h (q.length : Int) hl h0 hi (by omega)
 have hr := r1 (by omega)
 refine ⟨q.getD r.toNat ByteArray.empty, i', h', ?_, ?_, s0, s1⟩
 ·unfold cO.f
  rw [e, Option.bind_some, if_pos r0, if_pos hr]; rfl
 ·rw [List.getD_eq_getElem?_getD, List.getElem?_eq_getElem (by omega)]
  exact List.getElem_mem _
theorem zf (l : List Int) (i h n : Int) (hl : l.length ≤ 1099511627776) (h0 : 0 ≤ i) (hi : i ≤ l.length) (hn : n ≤ 4611686018427387904) :
  ∃ r i' h', fQ.f l i h n = some (r, i', h') ∧ 0 ≤ i' ∧ i' ≤ l.length := by
 obtain ⟨r, i', h', e, _, _, _, s0, s1⟩ := lh l i h n hl h0 hi hn
 exact ⟨_, i', h', by unfold fQ.f; rw [e]; rfl, s0, s1⟩
theorem new_any (l : List Int) (hl : l.length ≤ 1048576) : ∃ h, Ev (fun k => bu.f k l) (l, 0, h) := by
 have key : ∀ (d i : Nat) (h : Int), i + d = l.length → ∃ h', Ev (fun k => bu.l0 k l h (i : Int)) (l, 0, h') := by
  intro d
  induction d with
  | zero =>
   intro i h hi
   exact ⟨h, Ev.step (f := fun k => some (l, 0, h)) (fun k => by rw [bu.l0, if_neg (by omega)]) (Ev.now _)⟩
  | succ d ih =>
   intro i h hi
   by_cases h4 : (i : Int) < 4000
   ·obtain ⟨h', e⟩ := ih (i + 1) (Go.bits .and .i64 (wrap64 ((wrap64 ((wrap64 (h * 131)) + (wrap64 (rd l (i : Int))))) + 7)) 1073741823) (by omega)
    exact ⟨h', Ev.step (fun k => by rw [bu.l0, if_pos (by omega), if_pos h4, if_pos (by omega), wC i (by omega)]) e⟩
   ·exact ⟨h, Ev.step (f := fun k => some (l, 0, h)) (fun k => by rw [bu.l0, if_pos (by omega), if_neg h4]) (Ev.now _)⟩
 exact key l.length 0 _ (by omega)
theorem jy (s : ByteArray) (a b : Nat) : (s.extract a b).size ≤ s.size := by rw [fM, fM, kC]; simp; omega
theorem iC (s t : ByteArray) : (s ++ t).size = s.size + t.size := by rw [fM, fM, fM, kX, List.length_append]
theorem wU (l : List Int) (i h : Int) (q : List Int) (hl : l.length ≤ 1099511627776) (h0 : 0 ≤ i) (hi : i ≤ l.length) (hq : 1 ≤ q.length) (hq2 : q.length ≤ 256) :
  ∃ r i' h', di.f l i h q = some (r, i', h') ∧ 0 ≤ i' ∧ i' ≤ l.length := by
 obtain ⟨r, i', h', e, r0, r1, _, s0, s1⟩ := lh l i h (q.length : Int) hl h0 hi (by omega)
 have hr := r1 (by omega)
 refine ⟨rd q r, i', h', ?_, s0, s1⟩
 unfold di.f
 rw [e, Option.bind_some, if_pos r0, if_pos hr]
theorem bent_any2 (l : List Int) (i h : Int) (s : ByteArray) (hs : s.size ≤ 1000) (hl : l.length ≤ 1099511627776) (h0 : 0 ≤ i) (hi : i ≤ l.length) :
  ∃ t i' h', dn.f l i h s = some (t, i', h') ∧ t.size ≤ 3000 ∧ 0 ≤ i' ∧ i' ≤ l.length := by
 obtain ⟨r, i1, h1, e1, r0, r1, _, p0, p1⟩ := lh l i h ((s.size : Int) + 1) hl h0 hi (by omega)
 have hr := r1 (by omega)
 obtain ⟨q, i2, h2, e2, q0, q1, _, t0, t1⟩ := lh l i1 h1 8 hl p0 p1 (by omega)
 unfold dn.f
 rw [rO (n := (s.size : Int) + 1) (by omega) (by omega), e1, Option.bind_some, e2, Option.bind_some]
 by_cases c0 : q = 0
 ·rw [if_pos c0, if_pos r0, if_pos (by show r ≤ _; omega)]
  exact ⟨_, _, _, rfl, Nat.le_trans (jy _ _ _) (by omega), t0, t1⟩
 ·by_cases c1 : q = 1
  ·obtain ⟨u, i3, h3, e3, hu, s0, s1⟩ := pick_any l i2 h2 [(⟨#[48]⟩), (⟨#[32]⟩), (⟨#[255]⟩), (⟨#[34]⟩), (⟨#[10]⟩), (⟨#[97]⟩), (⟨#[44]⟩), (⟨#[61]⟩)] hl t0 t1 (by simp) (by simp)
   have hu1 : u.size ≤ 1 := by
    have : ∀ x ∈ ([(⟨#[48]⟩), (⟨#[32]⟩), (⟨#[255]⟩), (⟨#[34]⟩), (⟨#[10]⟩), (⟨#[97]⟩), (⟨#[44]⟩), (⟨#[61]⟩)] : List ByteArray), x.size ≤ 1 := by decide
    exact this u hu
   have x1 := jy s 0 r.toNat
   have x2 := jy s r.toNat s.size
   rw [if_neg c0, if_pos c1, if_pos r0, if_pos (by show r ≤ _; omega), e3, Option.bind_some, if_pos (by show (s.extract 0 r.toNat).size + u.size ≤ _; omega), if_pos (by show ((s.extract 0 r.toNat) ++ u).size + (s.extract r.toNat s.size).size ≤ _; rw [iC]; omega)]
   refine ⟨_, _, _, rfl, ?_, s0, s1⟩
   show (s.extract 0 r.toNat ++ u ++ s.extract r.toNat s.size).size ≤ _
   rw [iC, iC]; omega
  ·by_cases c2 : q = 2
   ·by_cases c3 : r < (s.size : Int)
    ·obtain ⟨u, i3, h3, e3, hu, s0, s1⟩ := pick_any l i2 h2 [(⟨#[48]⟩), (⟨#[65]⟩), (⟨#[0]⟩), (⟨#[57]⟩), (⟨#[93]⟩), (⟨#[92]⟩)] hl t0 t1 (by simp) (by simp)
     have hu1 : u.size ≤ 1 := by
      have : ∀ x ∈ ([(⟨#[48]⟩), (⟨#[65]⟩), (⟨#[0]⟩), (⟨#[57]⟩), (⟨#[93]⟩), (⟨#[92]⟩)] : List ByteArray), x.size ≤ 1 := by decide
      exact this u hu
     have x1 := jy s 0 r.toNat
     have x2 := jy s (r + 1).toNat s.size
     rw [if_neg c0, if_neg c1, if_pos c2, if_pos c3, if_pos r0, if_pos (by show r ≤ _; omega), e3, Option.bind_some, if_pos (by show (s.extract 0 r.toNat).size + u.size ≤ _; omega), rO (n := r + 1) (by omega) (by omega), if_pos (by omega), if_pos (by omega), if_pos (by show ((s.extract 0 r.toNat) ++ u).size + (s.extract (r + 1).toNat s.size).size ≤ _; rw [iC]; omega)]
     refine ⟨_, _, _, rfl, ?_, s0, s1⟩
     show (s.extract 0 r.toNat ++ u ++ s.extract (r + 1).toNat s.size).size ≤ _
     rw [iC, iC]; omega
    ·rw [if_neg c0, if_neg c1, if_pos c2, if_neg c3]
     exact ⟨_, _, _, rfl, by omega, t0, t1⟩
   ·rw [if_neg c0, if_neg c1, if_neg c2]
    exact ⟨_, _, _, rfl, by omega, t0, t1⟩
theorem Oi (l : List Int) (i h : Int) (s : ByteArray) (hs : s.size ≤ 500000) (hl : l.length ≤ 1099511627776) (h0 : 0 ≤ i) (hi : i ≤ l.length) :
  ∃ t i' h', dn.f l i h s = some (t, i', h') ∧ t.size ≤ 1048576 ∧ 0 ≤ i' ∧ i' ≤ l.length := by
 obtain ⟨r, i1, h1, e1, r0, r1, _, p0, p1⟩ := lh l i h ((s.size : Int) + 1) hl h0 hi (by omega)
 have hr := r1 (by omega)
 obtain ⟨q, i2, h2, e2, q0, q1, _, t0, t1⟩ := lh l i1 h1 8 hl p0 p1 (by omega)
 unfold dn.f
 rw [rO (n := (s.size : Int) + 1) (by omega) (by omega), e1, Option.bind_some, e2, Option.bind_some]
 by_cases c0 : q = 0
 ·rw [if_pos c0, if_pos r0, if_pos (by show r ≤ _; omega)]
  exact ⟨_, _, _, rfl, Nat.le_trans (jy _ _ _) (by omega), t0, t1⟩
 ·by_cases c1 : q = 1
  ·obtain ⟨u, i3, h3, e3, hu, s0, s1⟩ := pick_any l i2 h2 [(⟨#[48]⟩), (⟨#[32]⟩), (⟨#[255]⟩), (⟨#[34]⟩), (⟨#[10]⟩), (⟨#[97]⟩), (⟨#[44]⟩), (⟨#[61]⟩)] hl t0 t1 (by simp) (by simp)
   have hu1 : u.size ≤ 1 := by
    have : ∀ x ∈ ([(⟨#[48]⟩), (⟨#[32]⟩), (⟨#[255]⟩), (⟨#[34]⟩), (⟨#[10]⟩), (⟨#[97]⟩), (⟨#[44]⟩), (⟨#[61]⟩)] : List ByteArray), x.size ≤ 1 := by decide
    exact this u hu
   have x1 := jy s 0 r.toNat
   have x2 := jy s r.toNat s.size
   rw [if_neg c0, if_pos c1, if_pos r0, if_pos (by show r ≤ _; omega), e3, Option.bind_some, if_pos (by show (s.extract 0 r.toNat).size + u.size ≤ _; omega), if_pos (by show ((s.extract 0 r.toNat) ++ u).size + (s.extract r.toNat s.size).size ≤ _; rw [iC]; omega)]
   refine ⟨_, _, _, rfl, ?_, s0, s1⟩
   show (s.extract 0 r.toNat ++ u ++ s.extract r.toNat s.size).size ≤ _
   rw [iC, iC]; omega
  ·by_cases c2 : q = 2
   ·by_cases c3 : r < (s.size : Int)
    ·obtain ⟨u, i3, h3, e3, hu, s0, s1⟩ := pick_any l i2 h2 [(⟨#[48]⟩), (⟨#[65]⟩), (⟨#[0]⟩), (⟨#[57]⟩), (⟨#[93]⟩), (⟨#[92]⟩)] hl t0 t1 (by simp) (by simp)
     have hu1 : u.size ≤ 1 := by
      have : ∀ x ∈ ([(⟨#[48]⟩), (⟨#[65]⟩), (⟨#[0]⟩), (⟨#[57]⟩), (⟨#[93]⟩), (⟨#[92]⟩)] : List ByteArray), x.size ≤ 1 := by decide
      exact this u hu
     have x1 := jy s 0 r.toNat
     have x2 := jy s (r + 1).toNat s.size
     rw [if_neg c0, if_neg c1, if_pos c2, if_pos c3, if_pos r0, if_pos (by show r ≤ _; omega), e3, Option.bind_some, if_pos (by show (s.extract 0 r.toNat).size + u.size ≤ _; omega), rO (n := r + 1) (by omega) (by omega), if_pos (by omega), if_pos (by omega), if_pos (by show ((s.extract 0 r.toNat) ++ u).size + (s.extract (r + 1).toNat s.size).size ≤ _; rw [iC]; omega)]
     refine ⟨_, _, _, rfl, ?_, s0, s1⟩
     show (s.extract 0 r.toNat ++ u ++ s.extract (r + 1).toNat s.size).size ≤ _
     rw [iC, iC]; omega
    ·rw [if_neg c0, if_neg c1, if_pos c2, if_neg c3]
     exact ⟨_, _, _, rfl, by omega, t0, t1⟩
   ·rw [if_neg c0, if_neg c1, if_neg c2]
    exact ⟨_, _, _, rfl, by omega, t0, t1⟩
theorem Ce (l : List Int) (i h : Int) (a b c : Int) (p : List ByteArray) (hp : p.length ≤ 2) (hs : ∀ x ∈ p, x.size ≤ 21) (hl : l.length ≤ 1099511627776) (h0 : 0 ≤ i) (hi : i ≤ l.length) :
  ∃ a' b' c' p' i' h', Ev (fun k => aV.j0 k l i h a b c p) (a', b', c', p', i', h') ∧ p'.length ≤ 6 ∧ (∀ x ∈ p', x.size ≤ 21) ∧ 0 ≤ i' ∧ i' ≤ l.length := by
 obtain ⟨r, i1, h1, e1, r0, r1, _, p0, p1⟩ := lh l i h 24 hl h0 hi (by omega)
 by_cases c0 : r = 0
 ·obtain ⟨u, i2, h2, e2, q0, q1⟩ := wU l i1 h1 [(-1), 999999999, 1000000000] hl p0 p1 (by simp) (by simp)
  refine ⟨_, _, _, _, _, _, Ev.step (f := fun _ => some (a, u, c, p, i2, h2)) (fun k => ?_) (Ev.now _), by omega, hs, q0, q1⟩
  rw [aV.j0, e1, Option.bind_some, if_pos c0, e2, Option.bind_some]
 ·by_cases c1 : r = 1
  ·obtain ⟨u, i2, h2, e2, hu, q0, q1⟩ := pick_any l i1 h1 [(⟨#[]⟩ : ByteArray), (⟨#[48, 49]⟩ : ByteArray), (⟨#[97, 95, 98]⟩ : ByteArray), (⟨#[49, 48, 48, 48, 48, 48, 48, 48, 48, 48]⟩ : ByteArray), (⟨#[97, 98, 99, 100, 101, 102, 103, 104, 105, 106, 107, 108, 109, 110, 111, 112, 113, 114, 115, 116]⟩ : ByteArray), (⟨#[97, 98, 99, 100, 101, 102, 103, 104, 105, 106, 107, 108, 109, 110, 111, 112, 113, 114, 115, 116, 117]⟩ : ByteArray)] hl p0 p1 (by simp) (by simp)
   have hu1 : u.size ≤ 21 := by
    have : ∀ x ∈ [(⟨#[]⟩ : ByteArray), (⟨#[48, 49]⟩ : ByteArray), (⟨#[97, 95, 98]⟩ : ByteArray), (⟨#[49, 48, 48, 48, 48, 48, 48, 48, 48, 48]⟩ : ByteArray), (⟨#[97, 98, 99, 100, 101, 102, 103, 104, 105, 106, 107, 108, 109, 110, 111, 112, 113, 114, 115, 116]⟩ : ByteArray), (⟨#[97, 98, 99, 100, 101, 102, 103, 104, 105, 106, 107, 108, 109, 110, 111, 112, 113, 114, 115, 116, 117]⟩ : ByteArray)], x.size ≤ 21 := by decide
    exact this u hu
   refine ⟨_, _, _, _, _, _, Ev.step (f := fun _ => some (a, b, c, p ++ [u], i2, h2)) (fun k => ?_) (Ev.now _), by rw [List.length_append, List.length_singleton]; omega, ?_, q0, q1⟩
   ·rw [aV.j0, e1, Option.bind_some, if_neg c0, if_pos c1, e2, Option.bind_some, if_pos (by omega)]
   ·intro x hx
    rcases List.mem_append.1 hx with hx | hx
    ·exact hs x hx
    ·rw [List.mem_singleton.1 hx]; exact hu1
  ·by_cases c2 : r = 2
   ·obtain ⟨u, i2, h2, e2, q0, q1⟩ := zf l i1 h1 2 hl p0 p1 (by omega)
    by_cases c3 : u = true
    ·refine ⟨_, _, _, _, _, _, Ev.step (f := fun _ => some (a, b, c, [(⟨#[97]⟩ : ByteArray), (⟨#[98]⟩ : ByteArray), (⟨#[99]⟩ : ByteArray), (⟨#[100]⟩ : ByteArray), (⟨#[101]⟩ : ByteArray)] ++ [(⟨#[102]⟩ : ByteArray)], i2, h2)) (fun k => ?_) (Ev.now _), by simp, by decide, q0, q1⟩
     rw [aV.j0, e1, Option.bind_some, if_neg c0, if_neg c1, if_pos c2, Option.bind_some, e2, Option.bind_some, if_pos c3, if_pos (by simp)]
    ·refine ⟨_, _, _, _, _, _, Ev.step (f := fun _ => some (a, b, c, [(⟨#[97]⟩ : ByteArray), (⟨#[98]⟩ : ByteArray), (⟨#[99]⟩ : ByteArray), (⟨#[100]⟩ : ByteArray), (⟨#[101]⟩ : ByteArray)], i2, h2)) (fun k => ?_) (Ev.now _), by simp, by decide, q0, q1⟩
     rw [aV.j0, e1, Option.bind_some, if_neg c0, if_neg c1, if_pos c2, Option.bind_some, e2, Option.bind_some, if_neg c3]
   ·refine ⟨_, _, _, _, _, _, Ev.step (f := fun _ => some (a, b, c, p, i1, h1)) (fun k => ?_) (Ev.now _), by omega, hs, p0, p1⟩
    rw [aV.j0, e1, Option.bind_some, if_neg c0, if_neg c1, if_neg c2]
theorem QO (l : List Int) (i h : Int) (hl : l.length ≤ 1099511627776) (h0 : 0 ≤ i) (hi : i ≤ l.length) :
  ∃ a b c p i' h', Ev (fun k => aV.f k l i h) (a, b, c, p, i', h') ∧ p.length ≤ 6 ∧ (∀ x ∈ p, x.size ≤ 21) ∧ 0 ≤ i' ∧ i' ≤ l.length := by
 obtain ⟨a, i1, h1, e1, p0, p1⟩ := wU l i h [0, 1, 1, 2, 10] hl h0 hi (by simp) (by simp)
 obtain ⟨b, i2, h2, e2, q0, q1⟩ := wU l i1 h1 [0, 0, 1, 2, 12] hl p0 p1 (by simp) (by simp)
 obtain ⟨c, i3, h3, e3, r0, r1⟩ := wU l i2 h2 [0, 0, 1, 3, 9] hl q0 q1 (by simp) (by simp)
 obtain ⟨u, i4, h4, e4, s0, s1⟩ := zf l i3 h3 4 hl r0 r1 (by omega)
 unfold aV.f
 by_cases c0 : u = true
 ·obtain ⟨v, i5, h5, e5, hv, t0, t1⟩ := pick_any l i4 h4 [(⟨#[114, 99]⟩ : ByteArray), (⟨#[98, 101, 116, 97]⟩ : ByteArray), (⟨#[49]⟩ : ByteArray), (⟨#[48]⟩ : ByteArray), (⟨#[120, 45, 121]⟩ : ByteArray)] hl s0 s1 (by simp) (by simp)
  have hv1 : v.size ≤ 21 := by
   have : ∀ x ∈ [(⟨#[114, 99]⟩ : ByteArray), (⟨#[98, 101, 116, 97]⟩ : ByteArray), (⟨#[49]⟩ : ByteArray), (⟨#[48]⟩ : ByteArray), (⟨#[120, 45, 121]⟩ : ByteArray)], x.size ≤ 21 := by decide
   exact this v hv
  obtain ⟨u2, i6, h6, e6, w0, w1⟩ := zf l i5 h5 2 hl t0 t1 (by omega)
  by_cases c1 : u2 = true
  ·obtain ⟨v2, i7, h7, e7, hv2, x0, x1⟩ := pick_any l i6 h6 [(⟨#[49]⟩ : ByteArray), (⟨#[50]⟩ : ByteArray), (⟨#[49, 48]⟩ : ByteArray), (⟨#[97]⟩ : ByteArray)] hl w0 w1 (by simp) (by simp)
   have hv3 : v2.size ≤ 21 := by
    have : ∀ x ∈ [(⟨#[49]⟩ : ByteArray), (⟨#[50]⟩ : ByteArray), (⟨#[49, 48]⟩ : ByteArray), (⟨#[97]⟩ : ByteArray)], x.size ≤ 21 := by decide
    exact this v2 hv2
   obtain ⟨a', b', c', p', i', h', ej, z⟩ := Ce l i7 h7 a b c ([v] ++ [v2]) (by simp) (fun x hx => by
    rcases List.mem_append.1 hx with hx | hx
    ·rw [List.mem_singleton.1 hx]; exact hv1
    ·rw [List.mem_singleton.1 hx]; exact hv3) hl x0 x1
   exact ⟨a', b', c', p', i', h', bn e1 (bn e2 (bn e3 (bn e4 (aK c0 (bn e5 (bn rfl (bn e6 (aK c1 (bn e7 (aK (show ([v] : List ByteArray).length < 8796093022208 by simp) ej)))))))))), z⟩
  ·obtain ⟨a', b', c', p', i', h', ej, z⟩ := Ce l i6 h6 a b c [v] (by simp) (fun x hx => by rw [List.mem_singleton.1 hx]; exact hv1) hl w0 w1
   exact ⟨a', b', c', p', i', h', bn e1 (bn e2 (bn e3 (bn e4 (aK c0 (bn e5 (bn rfl (bn e6 (aY c1 ej)))))))), z⟩
 ·obtain ⟨a', b', c', p', i', h', ej, z⟩ := Ce l i4 h4 a b c [] (by simp) (fun x hx => by simp at hx) hl s0 s1
  exact ⟨a', b', c', p', i', h', bn e1 (bn e2 (bn e3 (bn e4 (aY c0 ej)))), z⟩
theorem Ai (l : List Int) (i h : Int) (hl : l.length ≤ 1099511627776) (h0 : 0 ≤ i) (hi : i ≤ l.length) :
  ∃ t i' h', Ev (fun k => bY.f k l i h) (t, i', h') ∧ t.size ≤ 1000 ∧ 0 ≤ i' ∧ i' ≤ l.length := by
 obtain ⟨a, b, c, p, i1, h1, e1, hp, hs, p0, p1⟩ := QO l i h hl h0 hi
 have e2 := lF a b c p (by omega) (fun x hx => by have := hs x hx; omega)
 have hv := Ah a b c p
 unfold bY.f
 by_cases c0 : (S (iZ a b c p)).toList = ([] : List UInt8)
 ·exact ⟨_, i1, h1, Ev.bind e1 (Ev.bind e2 (aK c0 (Ev.now _))), by decide, p0, p1⟩
 ·exact ⟨_, i1, h1, Ev.bind e1 (Ev.bind e2 (aY c0 (Ev.now _))), by rw [fD]; omega, p0, p1⟩
end Go.Proofs.YtieohddolkeegaaGreatDoor.U

end
section
namespace Go.Proofs.YtieohddolkeegaaGreatDoor.U
open Go Go.RowKit Go.Proofs.aA.aZ Go.Proofs.YtieohddolkeegaaGreatDoor.G
set_option linter.unusedVariables false
def dX (l : B) : Bool := (aI l).2.2.2.2
def jX (l : B) : Bool := dX l || l == []
theorem qX {l : B} (h : dX l = true) : ∃ a b c p, iZ a b c p = l ∧ aI l = (a, b, c, p, true) := by
 unfold dX at h
 unfold aI at h ⊢
 split at h
 ·rename_i hc
  exact ⟨_, _, _, _, hc.2, by rw [if_pos hc]⟩
 ·simp [zeroV] at h
theorem XC {l : B} (h : dX l = true) : l.length ≤ 135 := by
 obtain ⟨a, b, c, p, e, _⟩ := qX h
 rw [← e]; exact Ah _ _ _ _
theorem uo : dX [] = false := by
 unfold dX aI
 rw [if_neg]
 ·rfl
 ·rintro ⟨h, _⟩; exact absurd rfl (AO h)
theorem Af {l : B} (h : jX l = true) : l.length ≤ 135 := by
 unfold jX at h
 rw [Bool.or_eq_true] at h
 rcases h with h | h
 ·exact XC h
 ·rw [beq_iff_eq] at h; rw [h]; simp
end Go.Proofs.YtieohddolkeegaaGreatDoor.U

end
section
namespace Go.Proofs.YtieohddolkeegaaGreatDoor.U
open Go Go.RowKit Go.Proofs.YtieohddolkeegaaGreatDoor.G
theorem TL (l : List ByteArray) (hl : l.length ≤ 1048577) : bT.f l = some l := by
 unfold bT.f; rw [if_pos (by omega)]
end Go.Proofs.YtieohddolkeegaaGreatDoor.U

end
section
namespace Go.Proofs.YtieohddolkeegaaGreatDoor.U
open Go Go.RowKit Go.Proofs.aA.aZ Go.Proofs.YtieohddolkeegaaGreatDoor.G
set_option linter.unusedVariables false
set_option linter.unusedSimpArgs false
def zeroS : ByteArray := ⟨#[48]⟩
theorem VM (l m : B) (c : UInt8) (h : 0 ≤ idx l c) : idx (l ++ m) c = idx l c := by
 induction l with
 | nil => rw [NU] at h; omega
 | cons x l ih =>
  rw [oZ] at h ⊢
  rw [List.cons_append, oZ]
  by_cases hx : x = c
  ·rw [if_pos hx, if_pos hx]
  ·rw [if_neg hx] at h ⊢
   rw [if_neg hx]
   by_cases h1 : idx l c = -1
   ·rw [if_pos h1] at h; omega
   ·rw [if_neg h1] at h
    have hg := FH l c
    have := ih (by omega)
    rw [this]
theorem QP (c : UInt8) : ∀ (x p y : B), gJ c p (x ++ c :: y) = gJ c p x ++ gJ c [] y := by
 intro x
 induction x with
 | nil => intro p y; simp [gJ]
 | cons z x ih =>
  intro p y
  rw [List.cons_append]
  by_cases hz : z = c
  ·simp only [gJ, if_pos hz]; rw [ih]; rfl
  ·simp only [gJ, if_neg hz]; rw [ih]
theorem Zr : gJ 46 [] [48] = [[48]] := by decide
theorem BA {l : B} (m : B) (h : 0 ≤ idx l 45) : jI (l ++ m) = jI l := by
 have hl := NV l 45
 unfold jI
 rw [VM l m 45 h, if_pos h, if_pos h, List.take_append_of_le_length (by omega)]
theorem QQ {l : B} (h : 0 ≤ idx l 45) : rU (l ++ [46, 48]) = rU l ++ [zeroS] := by
 have hl := NV l 45
 unfold rU
 rw [VM l _ 45 h, if_pos h, if_pos h, List.drop_append_of_le_length (by omega), QP, Zr, List.map_append]; rfl
theorem QR {l : B} (h : rU l ≠ []) : 0 ≤ idx l 45 := by
 unfold rU at h
 by_cases h0 : 0 ≤ idx l 45
 ·exact h0
 ·rw [if_neg h0] at h; exact absurd rfl h
theorem Nc (r : List B) (x : B) : Lib.joinTail [46] (r ++ [x]) = Lib.joinTail [46] r ++ 46 :: x := by
 unfold Lib.joinTail; simp
theorem XD {p : List ByteArray} (h : p ≠ []) : wS (p ++ [zeroS]) = wS p ++ [46, 48] := by
 cases p with
 | nil => exact absurd rfl h
 | cons x r =>
  unfold wS
  rw [if_neg (by simp), if_neg (by simp), List.map_append, List.map_cons, List.cons_append, Lib.join_cons, Lib.join_cons]
  show 45 :: (L x ++ Lib.joinTail [46] (r.map L ++ [[48]])) = _
  rw [Nc]; simp
theorem vY {a b c : Int} {p : List ByteArray} (h : gY a b c p = true) : iZ a b c p = oN a b c ++ wS p := if_pos h
theorem tK {a b c : Int} {p : List ByteArray} (h : ¬ gY a b c p = true) : iZ a b c p = [] := if_neg h
theorem Zt (a b c : Int) : oN a b c ≠ [] := by unfold oN; simp
theorem xn (a b c : Int) (p : List ByteArray) : iZ a b c p = [] ↔ ¬ gY a b c p = true := by
 constructor
 ·intro h e
  rw [vY e, List.append_eq_nil_iff] at h
  exact Zt _ _ _ h.1
 ·exact tK
theorem xq {l : B} {a b c : Int} {p : List ByteArray} (hr : aI l = (a, b, c, p, true)) (hp : p ≠ []) : dX (l ++ [46, 48]) = gY a b c (p ++ [zeroS]) ∧ (gY a b c (p ++ [zeroS]) = true → iZ a b c (p ++ [zeroS]) = l ++ [46, 48]) := by
 unfold aI at hr
 split at hr
 case isFalse => exact absurd hr (by simp [zeroV])
 rename_i hc
 simp only [Prod.mk.injEq, and_true] at hr
 obtain ⟨ha, hb, hcc, hpp⟩ := hr
 rw [ha, hb, hcc, hpp] at hc
 have hi : 0 ≤ idx l 45 := QR (by rw [hpp]; exact hp)
 have hv : gY a b c p = true := by
  by_cases e : gY a b c p = true
  ·exact e
  ·have := hc.2; rw [tK e] at this
   exact absurd this.symm (AO hc.1)
 have ht : gY a b c (p ++ [zeroS]) = true → iZ a b c (p ++ [zeroS]) = l ++ [46, 48] := fun e => by
  rw [vY e, XD hp, ← List.append_assoc, ← vY hv, hc.2]
 refine ⟨?_, ht⟩
 have h1 : ∀ i, jB (l ++ [46, 48]) i = jB l i := fun i => by unfold jB; rw [BA _ hi]
 unfold dX aI
 rw [BA _ hi, QQ hi, h1, h1, h1, ha, hb, hcc, hpp]
 by_cases e : gY a b c (p ++ [zeroS]) = true
 ·rw [if_pos ⟨hc.1, ht e⟩, e]
 ·rw [if_neg]
  ·simp only [Bool.not_eq_true] at e; rw [e]; rfl
  ·rintro ⟨_, h2⟩; rw [tK e] at h2; simp at h2
def l7 (s : ByteArray) : List iR :=
  if (aI (L s)).2.2.2.2 = true then
    (if iZ (aI (L s)).1 (aI (L s)).2.1 (if (aI (L s)).2.2.2.1 = [] then (aI (L s)).2.2.1 + 1 else (aI (L s)).2.2.1) ((aI (L s)).2.2.2.1 ++ [zeroS]) = [] then []
     else [⟨s, S (iZ (aI (L s)).1 (aI (L s)).2.1 (if (aI (L s)).2.2.2.1 = [] then (aI (L s)).2.2.1 + 1 else (aI (L s)).2.2.1) ((aI (L s)).2.2.2.1 ++ [zeroS]))⟩])
  else []
theorem FP {s : ByteArray} {a b c : Int} {p : List ByteArray} (h : aI (L s) = (a, b, c, p, true)) :
  l7 s = if iZ a b (if p = [] then c + 1 else c) (p ++ [zeroS]) = [] then [] else [⟨s, S (iZ a b (if p = [] then c + 1 else c) (p ++ [zeroS]))⟩] := by
 unfold l7; rw [h]; rfl
theorem FQ {s : ByteArray} (h : ¬ (aI (L s)).2.2.2.2 = true) : l7 s = [] := by unfold l7; rw [if_neg h]
theorem rM {l : B} {a b c : Int} {p : List ByteArray} (hr : aI l = (a, b, c, p, true)) : gY a b c p = true ∧ iZ a b c p = l := by
 unfold aI at hr
 split at hr
 case isFalse => exact absurd hr (by simp [zeroV])
 rename_i hc
 simp only [Prod.mk.injEq, and_true] at hr
 obtain ⟨ha, hb, hcc, hpp⟩ := hr
 rw [ha, hb, hcc, hpp] at hc
 refine ⟨?_, hc.2⟩
 by_cases e : gY a b c p = true
 ·exact e
 ·have := hc.2; rw [tK e] at this
  exact absurd this.symm (AO hc.1)
theorem Zu {l : B} {a b c : Int} {p : List ByteArray} {ok : Bool} (hr : aI l = (a, b, c, p, ok)) : p.length ≤ l.length + 1 ∧ ∀ x ∈ p, x.size ≤ l.length := by
 unfold aI at hr
 split at hr
 ·simp only [Prod.mk.injEq] at hr
  rw [← hr.2.2.2.1]; exact ⟨JO l, JP l⟩
 ·simp only [zeroV, Prod.mk.injEq] at hr
  rw [← hr.2.2.2.1]; simp
theorem Zv : o7 (L zeroS) = true := by decide +kernel
theorem Cf {a b c : Int} : gY a b c [zeroS] = gY a b c [] := by
 unfold gY
 simp [Zv]
theorem BB (a : Int) : iH.f a a = some 0 := by unfold iH.f; rw [if_neg (by omega), if_neg (by omega)]
theorem less_gt (a : Int) : iH.f (a + 1) a = some 1 := by unfold iH.f; rw [if_neg (by omega), if_pos (by omega)]
theorem Zw (a b c : Int) : Ev (fun k => aC.f k a b c [] a b c []) 0 := by
 unfold aC.f
 rw [BB, BB, BB]
 refine kH (kH (kH ?_))
 have st : ∀ i : Nat, i < 3 → ∀ {r : Int}, Ev (fun k => aC.l0 k [0, 0, 0] ((i + 1 : Nat) : Int) a b c [] a b c []) r → Ev (fun k => aC.l0 k [0, 0, 0] (i : Int) a b c [] a b c []) r := fun i hi r h => by
  refine Ev.step (fun k => ?_) h
  have e : rd [0, 0, 0] (i : Int) = 0 := by
   match i, hi with
   | 0, _ => rfl
   | 1, _ => rfl
   | 2, _ => rfl
  rw [aC.l0, if_pos (by omega), if_pos (by omega), if_pos (by simp; omega), if_pos e, wC i (by omega)]
 refine st 0 (by omega) (st 1 (by omega) (st 2 (by omega) ?_))
 refine Ev.step (f := fun k => aC.j1 k true a b c [] a b c []) (fun k => by rw [aC.l0, if_neg (by omega), if_pos (by simp)]) ?_
 exact Ev.step (f := fun k => some 0) (fun k => by rw [aC.j1, if_pos rfl, BB]; rfl) (Ev.now _)
theorem cmp_up (a b c : Int) : Ev (fun k => aC.f k a b (c + 1) [] a b c []) 1 := by
 unfold aC.f
 rw [BB, BB, less_gt]
 refine kH (kH (kH ?_))
 have st : ∀ i : Nat, i < 2 → ∀ {r : Int}, Ev (fun k => aC.l0 k [0, 0, 1] ((i + 1 : Nat) : Int) a b (c + 1) [] a b c []) r → Ev (fun k => aC.l0 k [0, 0, 1] (i : Int) a b (c + 1) [] a b c []) r := fun i hi r h => by
  refine Ev.step (fun k => ?_) h
  have e : rd [0, 0, 1] (i : Int) = 0 := by
   match i, hi with
   | 0, _ => rfl
   | 1, _ => rfl
  rw [aC.l0, if_pos (by omega), if_pos (by omega), if_pos (by simp; omega), if_pos e, wC i (by omega)]
 refine st 0 (by omega) (st 1 (by omega) ?_)
 refine Ev.step (f := fun k => some 1) (fun k => ?_) (Ev.now _)
 rw [aC.l0, if_pos (by omega), if_pos (by omega), if_pos (by simp), if_neg (by decide)]; rfl
theorem Bc (a b c : Int) (p : List ByteArray) (h : gY a b c [] = true) : Ev (fun k => eu.f k a b c p 2) (if gY a b (c + 1) [] = true then (S (iZ a b (c + 1) [zeroS]), true) else (S [], false)) := by
 unfold eu.f
 refine kH (Ev.bind (yJ a b c [] 2 (by simp) (by simp)) ?_)
 have hn : Fh a b c [] 2 = if gY a b (c + 1) [] = true then (a, b, c + 1, []) else (a, b, c, []) := by
  unfold Fh FO
  simp only [List.length_nil, if_pos, if_neg (show ¬ (2 : Int) = 0 by decide), if_neg (show ¬ (2 : Int) = 1 by decide)]
  by_cases e : gY a b (c + 1) [] = true
  ·rw [if_pos ⟨h, by decide, by decide, e⟩, if_pos e]
  ·rw [if_neg fun z => e z.2.2.2, if_neg e]
 rw [hn]
 by_cases e : gY a b (c + 1) [] = true
 ·rw [if_pos e, if_pos e]
  refine Ev.bind (cmp_up a b c) (aY (by decide) ?_)
  exact Ev.bind (lF a b (c + 1) [zeroS] (by simp) (fun x hx => by rw [List.mem_singleton] at hx; subst hx; decide)) (Ev.now _)
 ·rw [if_neg e, if_neg e]
  exact Ev.bind (Zw a b c) (aK rfl (Ev.now _))
theorem Jl (s : ByteArray) (hs : s.size ≤ 1048576) : Ev (fun k => qP.f k s) (l7 s) := by
 have hr := eX s (by omega)
 have hsz := fM s
 unfold qP.f
 by_cases hok : (aI (L s)).2.2.2.2 = true
 ·generalize hv : aI (L s) = v at hr hok
  obtain ⟨a, b, c, p, ok⟩ := v
  have hok' : ok = true := hok
  subst hok'
  obtain ⟨h1, h2⟩ := rM hv
  have h135 : (L s).length ≤ 135 := by rw [← h2]; exact Ah _ _ _ _
  rw [FP hv]
  have hal : Ev (fun k => fE.f k s) (if iZ a b (if p = [] then c + 1 else c) (p ++ [zeroS]) = [] then ((⟨#[]⟩ : ByteArray), (⟨#[]⟩ : ByteArray), false) else (s, S (iZ a b (if p = [] then c + 1 else c) (p ++ [zeroS])), true)) := by
   unfold fE.f
   refine Ev.bind hr (aK rfl ?_)
   by_cases hp : p = []
   ·subst hp
    refine aY (by simp) (Ev.bind (Bc a b c [] h1) ?_)
    rw [if_pos rfl, List.nil_append]
    have hz := xn a b (c + 1) [zeroS]
    rw [Cf] at hz
    by_cases e : gY a b (c + 1) [] = true
    ·rw [if_pos e, if_neg (fun z => hz.1 z e)]; exact aK rfl (Ev.now _)
    ·rw [if_neg e, if_pos (hz.2 e)]; exact aY (by simp) (Ev.now _)
   ·obtain ⟨i1, i2⟩ := xq hv hp
    have hz : (⟨#[46, 48]⟩ : ByteArray) = S [46, 48] := rfl
    have hs2 : s ++ (⟨#[46, 48]⟩ : ByteArray) = S (L s ++ [46, 48]) := by rw [hz]; apply mD; rw [kX, lQ, lQ]
    have hr2 := eX (S (L s ++ [46, 48])) (by rw [fD, List.length_append]; simp; omega)
    rw [lQ] at hr2
    refine aK (by cases p with
     | nil => exact absurd rfl hp
     | cons x r => simp only [List.length_cons]; omega) (aK (by omega) ?_)
    rw [hs2]
    refine Ev.bind hr2 ?_
    rw [if_neg hp]
    have hz := xn a b c (p ++ [zeroS])
    have J9 : (aI (L s ++ [46, 48])).2.2.2.2 = gY a b c (p ++ [zeroS]) := i1
    rw [J9]
    by_cases e : gY a b c (p ++ [zeroS]) = true
    ·rw [if_neg (fun z => hz.1 z e), i2 e]; exact aK e (Ev.now _)
    ·rw [if_pos (hz.2 e)]; exact aY e (Ev.now _)
  refine Ev.bind hal ?_
  by_cases e : iZ a b (if p = [] then c + 1 else c) (p ++ [zeroS]) = []
  ·rw [if_pos e, if_pos e]; exact aY (by simp) (Ev.now _)
  ·rw [if_neg e, if_neg e]; exact aK rfl (Ev.now _)
 ·rw [FQ hok]
  refine Ev.bind (a := ((⟨#[]⟩ : ByteArray), (⟨#[]⟩ : ByteArray), false)) ?_ (aY (by simp) (Ev.now _))
  unfold fE.f
  exact Ev.bind hr (aY hok (Ev.now _))
theorem vZ (a b c : Int) : Ev (fun k => dM.f k a b c) (S (iZ a b c [zeroS])) := by
 unfold dM.f
 exact Ev.bind (kD a b c [zeroS] (by simp) (fun x hx => by rw [List.mem_singleton] at hx; subst hx; decide)) (Ev.now _)
theorem Bd (a b c : Int) (p : List ByteArray) (hp : p.length ≤ 1048577) (hs : ∀ x ∈ p, x.size ≤ 1099511627776) : Ev (fun k => nM.f k a b c p) (S (iZ a b c p), if p = [] then S (iZ a b (wrap64 (c + 1)) [zeroS]) else S (iZ a b c (p ++ [zeroS]))) := by
 unfold nM.f
 refine Ev.bind (vZ _ _ _) ?_
 by_cases h : p = []
 ·subst h
  exact aY (by simp) (Ev.bind (kD a b c [] (by simp) (by simp)) (Ev.now _))
 ·rw [if_neg h]
  refine aK (by cases p with
   | nil => exact absurd rfl h
   | cons x r => simp only [List.length_cons]; omega) (bn (TL p (by omega)) (aK (by omega) ?_))
  refine Ev.bind (kD a b c (p ++ [zeroS]) (by rw [List.length_append]; simp; omega) (fun x hx => by
   rw [List.mem_append, List.mem_singleton] at hx
   rcases hx with hx | rfl
   ·exact hs x hx
   ·decide)) ?_
  exact Ev.bind (kD a b c p (by omega) hs) (Ev.now _)
theorem Jk (s : ByteArray) (hs : s.size ≤ 1048576) : Ev (fun k => qO.f k s) (l7 s) := by
 have hr := iD s (by omega)
 have hsz := fM s
 unfold qO.f
 generalize hv : aI (L s) = v at hr
 obtain ⟨a, b, c, p, ok⟩ := v
 obtain ⟨hl, hm⟩ := Zu hv
 refine Ev.bind hr (Ev.bind (Bd a b c p (by omega) (fun x hx => by have := hm x hx; omega)) ?_)
 cases ok with
 | false =>
  rw [FQ (by rw [hv]; simp)]
  exact aY (by simp) (Ev.now _)
 | true =>
  obtain ⟨h1, h2⟩ := rM hv
  have hc := (L8 h1).2.2
  rw [FP hv]
  refine aK rfl ?_
  have e : (if p = [] then S (iZ a b (wrap64 (c + 1)) [zeroS]) else S (iZ a b c (p ++ [zeroS]))) = S (iZ a b (if p = [] then c + 1 else c) (p ++ [zeroS])) := by
   by_cases h : p = []
   ·subst h; rw [if_pos rfl, if_pos rfl, w1 hc]; rfl
   ·rw [if_neg h, if_neg h]
  simp only [e, xh, h2, S_L]
  by_cases z : iZ a b (if p = [] then c + 1 else c) (p ++ [zeroS]) = []
  ·exact eH (aK z (Ev.now _)) (if_pos z).symm
  ·exact eH (aY z (Ev.now _)) (if_neg z).symm
theorem RY (s : ByteArray) : (l7 s).length ≤ 1 := by
 unfold l7
 repeat' split
 all_goals simp
def Jg (b : iR) : Bool := jX (L b.f0) && jX (L b.f1)
def jA (l : List iR) : Bool := l.all Jg && decide (1 ≤ l.length ∧ l.length ≤ 8)
theorem vM {l : List iR} (h : jA l = true) : (∀ b ∈ l, (L b.f0).length ≤ 135 ∧ (L b.f1).length ≤ 135) ∧ 1 ≤ l.length ∧ l.length ≤ 8 := by
 unfold jA at h
 simp only [Bool.and_eq_true, List.all_eq_true, decide_eq_true_eq] at h
 refine ⟨fun b hb => ?_, h.2⟩
 have := h.1 b hb
 unfold Jg at this
 rw [Bool.and_eq_true] at this
 exact ⟨Af this.1, Af this.2⟩
theorem Be (s : ByteArray) (hs : s.size ≤ 1048576) : Ev (fun k => jS.f k s) (jX (L s)) := by
 unfold jS.f jX dX
 refine Ev.bind (eX s hs) ?_
 rw [eY]
 by_cases h : (aI (L s)).2.2.2.2 = true
 ·rw [h]; exact aK rfl (Ev.now _)
 ·refine eH (aY h (Ev.now _)) ?_
  simp only [Bool.not_eq_true] at h; rw [h]; rfl
theorem wO (s : ByteArray) (hs : s.size ≤ 1048576) : Ev (fun k => fF.f k s) (dX (L s)) := by
 unfold fF.f dX
 exact Ev.bind (iD s hs) (Ev.now _)
theorem nY (l : List iR) (hl : l.length ≤ 1048576) (hs : ∀ b ∈ l, b.f0.size ≤ 1048576 ∧ b.f1.size ≤ 1048576) : Ev (fun k => bZ.f k l) (jA l) := by
 refine rG l z67 Jg _ (fun k i => bZ.l0 k l i) ?_ ?_
 ·refine Ev.step (f := fun k => some (decide (1 ≤ l.length ∧ l.length ≤ 8))) (fun k => ?_) (Ev.now _)
  show bZ.l0 (k + 1) l _ = _
  rw [bZ.l0, if_neg (by omega), jJ, Option.bind_some]
  congr 1
  by_cases h : 1 ≤ l.length ∧ l.length ≤ 8
  ·rw [decide_eq_true h, decide_eq_true (by omega)]
  ·rw [decide_eq_false h, decide_eq_false (by omega)]
 ·intro i r hi hr
  have hm := hs _ (getD_mem l i z67 hi)
  have ee : dS l (i : Int) = l.getD i z67 := rfl
  refine Ev.step (f := fun k => (jS.f k (l.getD i z67).f0).bind fun t => if t = true then ((jS.f k (l.getD i z67).f1).bind fun u => if u = true then bZ.l0 k l ((i + 1 : Nat) : Int) else some false) else some false) (fun k => ?_) ?_
  ·show bZ.l0 (k + 1) l _ = _
   rw [bZ.l0, if_pos (by omega), if_pos (by omega), ee, wC i (by omega)]
  ·generalize l.getD i z67 = b at hm ⊢
   unfold Jg
   refine Ev.bind (Be b.f0 hm.1) ?_
   by_cases h0 : jX (L b.f0) = true
   ·rw [h0, Bool.true_and]
    refine aK rfl (Ev.bind (Be b.f1 hm.2) ?_)
    by_cases h1 : jX (L b.f1) = true
    ·rw [h1, Bool.true_and]; exact aK rfl hr
    ·simp only [Bool.not_eq_true] at h1; rw [h1]; exact aY (by simp) (Ev.now _)
   ·simp only [Bool.not_eq_true] at h0; rw [h0]; exact aY (by simp) (Ev.now _)
theorem VN {s : ByteArray} (hs : s.size ≤ 1048576) {f : Nat → Option Bool} {r : Bool} (hr : Ev f r) : Ev (fun k => if s.toList = ([] : List UInt8) then f k else (fF.f k s).bind fun t => if t = true then f k else some false) (jX (L s) && r) := by
 rw [eY]
 unfold jX
 by_cases h : L s = []
 ·have : (L s == ([] : B)) = true := beq_iff_eq.2 h
  rw [this, Bool.or_true, Bool.true_and]; exact aK h hr
 ·have : (L s == ([] : B)) = false := beq_eq_false_iff_ne.2 h
  rw [this, Bool.or_false]
  refine aY h (Ev.bind (wO s hs) ?_)
  by_cases h1 : dX (L s) = true
  ·rw [h1, Bool.true_and]; exact aK rfl hr
  ·simp only [Bool.not_eq_true] at h1; rw [h1]; exact aY (by simp) (Ev.now _)
theorem nX (l : List iR) (hl : l.length ≤ 1048576) (hs : ∀ b ∈ l, b.f0.size ≤ 1048576 ∧ b.f1.size ≤ 1048576) : Ev (fun k => fB.f k l) (jA l) := by
 refine rG l z67 Jg _ (fun k i => fB.l0 k l l (l.length : Int) i) ?_ ?_
 ·refine Ev.step (f := fun k => some (decide (1 ≤ l.length ∧ l.length ≤ 8))) (fun k => ?_) (Ev.now _)
  show fB.l0 (k + 1) l l _ _ = _
  rw [fB.l0, if_neg (by omega), o6, Option.bind_some]
  congr 1
  by_cases h : 1 ≤ l.length ∧ l.length ≤ 8
  ·rw [decide_eq_true h, decide_eq_true (by omega)]
  ·rw [decide_eq_false h, decide_eq_false (by omega)]
 ·intro i r hi hr
  have hm := hs _ (getD_mem l i z67 hi)
  have ee : dS l (i : Int) = l.getD i z67 := rfl
  refine eH (Ev.step (fun k => ?_) (VN hm.1 (VN hm.2 hr))) (by unfold Jg; rw [Bool.and_assoc])
  show fB.l0 (k + 1) l l _ _ = _
  rw [fB.l0, if_pos (by omega), if_pos (by omega), if_pos (by omega), ee, wC i (by omega)]
end Go.Proofs.YtieohddolkeegaaGreatDoor.U

end
