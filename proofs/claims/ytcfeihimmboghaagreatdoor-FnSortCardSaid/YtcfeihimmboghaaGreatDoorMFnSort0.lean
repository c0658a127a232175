/- A part of the proof that the law FnSort answers true at every input that its row speaks of. Conditions: the row's own. -/
import Derived.Test.YtcfeihimmboghaaGreatDoorVMore
import Derived.Lib.Strings
import Derived.Laws.BitsLemmas
import Derived.Lib.AtoiAll
import Derived.Lib.ItoaNum
import Derived.Test.YtcfeihimmboghaaGreatDoorKFnSort0
import Derived.Test.YtcfeihimmboghaaGreatDoorKFnSort1
section
namespace Go.Proofs.YtcfeihimmboghaaGreatDoor.U
open Go Go.RowKit Go.Proofs.YtcfeihimmboghaaGreatDoorW.PrintWords
set_option linter.unusedVariables false
set_option linter.unusedSimpArgs false
abbrev B := List UInt8
def L (s : ByteArray) : B := s.data.toList
def S (l : B) : ByteArray := ⟨l.toArray⟩
def I (l : B) : List Int := l.map fun b => (b.toNat : Int)
@[simp] theorem L_S (l : B) : L (S l) = l := by simp [L, S]
@[simp] theorem S_L (s : ByteArray) : S (L s) = s := rfl
theorem L_inj {s t : ByteArray} (h : L s = L t) : s = t := by rw [← S_L s, ← S_L t, h]
theorem S_inj {l m : B} (h : S l = S m) : l = m := by rw [← L_S l, ← L_S m, h]
theorem size_L (s : ByteArray) : s.size = (L s).length := Go.Lib.size_eq s
@[simp] theorem size_S (l : B) : (S l).size = l.length := by rw [size_L, L_S]
theorem toList_L (s : ByteArray) : s.toList = L s := Go.Lib.toList_data s
@[simp] theorem toList_S (l : B) : (S l).toList = l := by rw [toList_L, L_S]
@[simp] theorem L_append (s t : ByteArray) : L (s ++ t) = L s ++ L t := by simp [L, ByteArray.data_append]
@[simp] theorem S_append (l m : B) : S l ++ S m = S (l ++ m) := L_inj (by simp)
theorem L_extract (s : ByteArray) (a b : Nat) : L (s.extract a b) = ((L s).drop a).take (b - a) := Go.Lib.extract_data s a b
theorem S_extract (l : B) (a b : Nat) : (S l).extract a b = S ((l.drop a).take (b - a)) := L_inj (by rw [L_extract]; simp)
theorem mk_S (l : B) : (⟨l.toArray⟩ : ByteArray) = S l := rfl
@[simp] theorem I_length (l : B) : (I l).length = l.length := by simp [I]
@[simp] theorem I_nil : I [] = [] := rfl
theorem I_append (l m : B) : I (l ++ m) = I l ++ I m := by simp [I]
theorem I_cons (c : UInt8) (l : B) : I (c :: l) = (c.toNat : Int) :: I l := rfl
@[simp] theorem str_I (l : B) : strOfNums (I l) = S l := by
  unfold strOfNums I S
  rw [List.map_map]
  congr 2
  have e : ((fun n : Int => UInt8.ofNat n.toNat) ∘ fun b : UInt8 => (b.toNat : Int)) = id := by funext b; simp
  rw [e, List.map_id]
@[simp] theorem str_nil : strOfNums [] = S [] := rfl
theorem bytesOf_I (s : ByteArray) : bytesOf s = I (L s) := rfl
theorem bt_S (l : B) (i : Int) (h : i.toNat < l.length) : bt (S l) i = ((l[i.toNat]).toNat : Int) := by
  have h' : i.toNat < (S l).size := by simpa using h
  rw [← bt_at (S l) i h']
  rfl
theorem bt_L (s : ByteArray) (i : Int) (h : i.toNat < (L s).length) : bt s i = (((L s)[i.toNat]).toNat : Int) := by
  have := bt_S (L s) i h
  rwa [S_L] at this
def at_ (l : B) (i : Nat) : UInt8 := l.getD i 0
theorem at_eq (l : B) (i : Nat) (h : i < l.length) : at_ l i = l[i] := by simp [at_, h]
theorem bt_at_ (s : ByteArray) (i : Int) : bt s i = ((at_ (L s) i.toNat).toNat : Int) := by
  by_cases h : i.toNat < (L s).length
  · rw [bt_L s i h, at_eq _ _ h]
  · have h2 : ¬ i.toNat < s.size := by rw [size_L]; exact h
    have h3 : at_ (L s) i.toNat = 0 := by simp [at_, List.getD_eq_getElem?_getD, List.getElem?_eq_none (Nat.le_of_not_lt h)]
    rw [h3]; unfold bt; rw [dif_neg h2]; rfl
theorem bt_nat (s : ByteArray) (i : Nat) : bt s (i : Int) = ((at_ (L s) i).toNat : Int) := bt_at_ s i
theorem byte_lt (c : UInt8) : (c.toNat : Int) < 256 := by have := c.toNat_lt; omega
theorem byte_nonneg (c : UInt8) : 0 ≤ (c.toNat : Int) := by omega
theorem byte_inj {c d : UInt8} (h : (c.toNat : Int) = (d.toNat : Int)) : c = d := UInt8.toNat_inj.1 (by omega)
theorem byte_eq (c : UInt8) (n : Nat) (h : n < 256) : ((c.toNat : Int) = (n : Int)) ↔ c = UInt8.ofNat n := by
  constructor
  · intro e; apply UInt8.toNat_inj.1; rw [UInt8.toNat_ofNat']; omega
  · rintro rfl; rw [UInt8.toNat_ofNat']; omega
theorem byte_is (c d : UInt8) (n : Int) (h : (d.toNat : Int) = n) : ((c.toNat : Int) = n) ↔ c = d := by
  subst h; exact ⟨byte_inj, fun e => by rw [e]⟩
theorem drop_at (l : B) (i : Nat) (h : i < l.length) : l.drop i = at_ l i :: l.drop (i + 1) := by
  rw [at_eq l i h]; exact List.drop_eq_getElem_cons h
theorem take_at (l : B) (i : Nat) (h : i < l.length) : l.take (i + 1) = l.take i ++ [at_ l i] := by
  rw [at_eq l i h, List.take_succ_eq_append_getElem h]
theorem w64 {n : Int} (h0 : -9223372036854775808 ≤ n) (h1 : n ≤ 9223372036854775807) : wrap64 n = n := by unfold wrap64; omega
theorem ev_ite_pos {α : Type} {c : Nat → Prop} [∀ k, Decidable (c k)] {g f : Nat → Option α} {r : α} (hc : ∀ k, c k) (h : Ev g r) : Ev (fun k => if c k then g k else f k) r := Ev.congr (fun k => by rw [if_pos (hc k)]) h
theorem ev_ite_neg {α : Type} {c : Nat → Prop} [∀ k, Decidable (c k)] {g f : Nat → Option α} {r : α} (hc : ∀ k, ¬ c k) (h : Ev f r) : Ev (fun k => if c k then g k else f k) r := Ev.congr (fun k => by rw [if_neg (hc k)]) h
theorem ev_pos {α : Type} {c : Prop} [Decidable c] {g f : Nat → Option α} {r : α} (hc : c) (h : Ev g r) : Ev (fun k => if c then g k else f k) r := ev_ite_pos (fun _ => hc) h
theorem ev_neg {α : Type} {c : Prop} [Decidable c] {g f : Nat → Option α} {r : α} (hc : ¬ c) (h : Ev f r) : Ev (fun k => if c then g k else f k) r := ev_ite_neg (fun _ => hc) h
theorem ev_some {α β : Type} {a : α} {f : Nat → α → Option β} {r : β} (h : Ev (fun k => f k a) r) : Ev (fun k => (some a).bind (f k)) r := h
theorem ev_const {α β : Type} {g : Option α} {a : α} (hg : g = some a) {f : Nat → α → Option β} {r : β} (h : Ev (fun k => f k a) r) : Ev (fun k => g.bind (f k)) r := by subst hg; exact h
theorem ev_use {α : Type} {g : Nat → Option α} {a b : α} (h : Ev g a) (e : a = b) : Ev g b := e ▸ h
theorem ev_exists {α : Type} {g : Nat → Option α} {r : α} (h : Ev g r) : ∃ k, g k = some r := h.rounds
theorem loop_up {σ α : Type} (g : Nat → Int → σ → Option α) (n : Nat) (Inv : Nat → σ → Prop) (res : Nat → σ → α)
    (hend : ∀ st, Inv n st → Ev (fun k => g k (n : Int) st) (res n st))
    (hstep : ∀ i st, i < n → Inv i st → (∀ st', Inv (i + 1) st' → Ev (fun k => g k ((i + 1 : Nat) : Int) st') (res (i + 1) st')) → Ev (fun k => g k (i : Int) st) (res i st)) :
    ∀ i st, i ≤ n → Inv i st → Ev (fun k => g k (i : Int) st) (res i st) := by
  intro i st hi
  obtain ⟨d, hd⟩ : ∃ d, i + d = n := ⟨n - i, by omega⟩
  clear hi
  induction d generalizing i st with
  | zero => intro h; have e : i = n := by omega
            subst e; exact hend st h
  | succ d ih => intro h; exact hstep i st (by omega) h fun st' h' => ih (i + 1) st' (by omega) h'
theorem inc (i : Nat) (h : i < 9223372036854775807) : wrap64 ((i : Int) + 1) = ((i + 1 : Nat) : Int) := by rw [w64 (by omega) (by omega)]; omega
theorem wa1 (j : Nat) (h : j ≤ 1125899906842624) : wrap64 ((j : Int) + 1) = ((j + 1 : Nat) : Int) := by rw [w64 (by omega) (by omega)]; omega
theorem wa2 (j : Nat) (h : j ≤ 1125899906842624) : wrap64 ((j : Int) + 2) = ((j + 2 : Nat) : Int) := by rw [w64 (by omega) (by omega)]; omega
theorem wa3 (j : Nat) (h : j ≤ 1125899906842624) : wrap64 ((j : Int) + 3) = ((j + 3 : Nat) : Int) := by rw [w64 (by omega) (by omega)]; omega
theorem wa4 (j : Nat) (h : j ≤ 1125899906842624) : wrap64 ((j : Int) + 4) = ((j + 4 : Nat) : Int) := by rw [w64 (by omega) (by omega)]; omega
theorem all_bytes {p : UInt8 → Prop} (h : ∀ n, n < 256 → p (UInt8.ofNat n)) (c : UInt8) : p c := by
  have := h c.toNat c.toNat_lt
  rwa [UInt8.ofNat_toNat] at this
end Go.Proofs.YtcfeihimmboghaaGreatDoor.U

end
section
namespace Go.Proofs.YtcfeihimmboghaaGreatDoor.U
open Go Go.RowKit
set_option linter.unusedVariables false
def val10 (a : Nat) : B → Nat
  | [] => a
  | c :: l => val10 (a * 10 + (c.toNat - 48)) l
theorem val10_append : ∀ (l m : B) (a : Nat), val10 a (l ++ m) = val10 (val10 a l) m
  | [], m, a => rfl
  | c :: l, m, a => by rw [List.cons_append]; exact val10_append l m _
def dgt (c : UInt8) : Bool := decide (48 ≤ c.toNat ∧ c.toNat ≤ 57)
theorem dgt_is (c : UInt8) : dgt c = true ↔ 48 ≤ c.toNat ∧ c.toNat ≤ 57 := by unfold dgt; exact decide_eq_true_iff
theorem dgt_of (i : Nat) (h : i < 10) : (UInt8.ofNat (48 + i)).toNat = 48 + i := by rw [UInt8.toNat_ofNat']; omega
theorem decDigits_step (u : Nat) (h : ¬ u < 10) : Lib.decDigits u = Lib.decDigits (u / 10) ++ [UInt8.ofNat (48 + u % 10)] := by
  conv => lhs; unfold Lib.decDigits
  rw [dif_neg h]
theorem dec_digits : ∀ (n u : Nat), u < n → (∀ c ∈ Lib.decDigits u, dgt c = true) ∧ val10 0 (Lib.decDigits u) = u := by
  intro n
  induction n with
  | zero => intro u h; omega
  | succ n ih =>
    intro u hu
    by_cases h : u < 10
    · rw [Lib.decDigits_one h]
      refine ⟨fun c hc => ?_, ?_⟩
      · rw [List.mem_singleton] at hc; subst hc; rw [dgt_is, dgt_of u h]; omega
      · show 0 * 10 + ((UInt8.ofNat (48 + u)).toNat - 48) = u
        rw [dgt_of u h]; omega
    · rw [decDigits_step u h]
      obtain ⟨h1, h2⟩ := ih (u / 10) (by omega)
      refine ⟨fun c hc => ?_, ?_⟩
      · rw [List.mem_append, List.mem_singleton] at hc
        rcases hc with hc | rfl
        · exact h1 c hc
        · rw [dgt_is, dgt_of _ (Nat.mod_lt _ (by decide))]; omega
      · rw [val10_append, h2]
        show (u / 10) * 10 + ((UInt8.ofNat (48 + u % 10)).toNat - 48) = u
        rw [dgt_of _ (Nat.mod_lt _ (by decide))]; omega
theorem dec_dgt (u : Nat) : ∀ c ∈ Lib.decDigits u, dgt c = true := (dec_digits (u + 1) u (by omega)).1
theorem dec_val (u : Nat) : val10 0 (Lib.decDigits u) = u := (dec_digits (u + 1) u (by omega)).2
theorem dec_ne (u : Nat) : Lib.decDigits u ≠ [] := by
  intro h
  have := Lib.decDigits_length u
  rw [h] at this
  have := Lib.nDigits_pos u
  simp at *; omega
theorem dec_inj {u v : Nat} (h : Lib.decDigits u = Lib.decDigits v) : u = v := by rw [← dec_val u, ← dec_val v, h]
theorem dec_len_lt (u d : Nat) (h : (Lib.decDigits u).length ≤ d) : u < 10 ^ d := by
  rw [Lib.decDigits_length] at h
  exact Nat.lt_of_lt_of_le (Lib.lt_pow_nDigits u) (Nat.pow_le_pow_right (by decide) h)
theorem dec_len_le : ∀ (d u : Nat), u < 10 ^ (d + 1) → (Lib.decDigits u).length ≤ d + 1 := by
  intro d
  induction d with
  | zero => intro u h; rw [Lib.decDigits_one (by omega)]; simp
  | succ d ih =>
    intro u h
    by_cases h1 : u < 10
    · rw [Lib.decDigits_one h1]; simp
    · rw [decDigits_step u h1, List.length_append]
      have := ih (u / 10) (by rw [Nat.div_lt_iff_lt_mul (by decide)]; rw [Nat.pow_succ] at h; exact h)
      simp; omega
theorem val10_lt : ∀ (l : B) (a : Nat), (∀ c ∈ l, dgt c = true) → val10 a l < (a + 1) * 10 ^ l.length
  | [], a, _ => by rw [List.length_nil, Nat.pow_zero]; show a < (a + 1) * 1; omega
  | c :: l, a, h => by
    have hc := (dgt_is c).1 (h c (by simp))
    have := val10_lt l (a * 10 + (c.toNat - 48)) fun x hx => h x (by simp [hx])
    refine Nat.lt_of_lt_of_le this ?_
    rw [List.length_cons, Nat.pow_succ, Nat.mul_comm (10 ^ l.length) 10, ← Nat.mul_assoc]
    exact Nat.mul_le_mul_right _ (by omega)
theorem val10_ge : ∀ (l : B) (a : Nat), a ≤ val10 a l
  | [], a => Nat.le_refl _
  | c :: l, a => Nat.le_trans (by omega) (val10_ge l (a * 10 + (c.toNat - 48)))
def rdec (l : B) : Int := if l.length ≤ 9 ∧ Lib.decDigits (val10 0 l) = l then (val10 0 l : Int) else -1
theorem p9 : (10 : Nat) ^ 9 = 1000000000 := by decide
theorem rdec_dec (u : Nat) (h : u < 1000000000) : rdec (Lib.decDigits u) = u := by
  unfold rdec
  have h9 : (Lib.decDigits u).length ≤ 9 := dec_len_le 8 u (by rw [show 8 + 1 = 9 from rfl, p9]; exact h)
  rw [dec_val, if_pos ⟨h9, rfl⟩]
theorem rdec_some {l : B} (h : ¬ rdec l = -1) : ∃ u : Nat, u < 1000000000 ∧ l = Lib.decDigits u ∧ rdec l = u := by
  unfold rdec at h ⊢
  by_cases hc : l.length ≤ 9 ∧ Lib.decDigits (val10 0 l) = l
  · refine ⟨val10 0 l, ?_, hc.2.symm, by rw [if_pos hc]⟩
    rw [← p9]; exact dec_len_lt _ 9 (by rw [hc.2]; exact hc.1)
  · rw [if_neg hc] at h; exact absurd rfl h
theorem rdec_range (l : B) : -1 ≤ rdec l ∧ rdec l ≤ 999999999 := by
  by_cases h : rdec l = -1
  · omega
  · obtain ⟨u, h1, _, h2⟩ := rdec_some h; omega
theorem parse_digits : ∀ (l : B) (a : Nat), (∀ c ∈ l, dgt c = true) → val10 a l < 1844674407370955161 → Lib.parseUint10 a l = .ok (val10 a l)
  | [], a, _, _ => rfl
  | c :: l, a, h, hv => by
    have hc := (dgt_is c).1 (h c (by simp))
    have hg := val10_ge l (a * 10 + (c.toNat - 48))
    have hv' : val10 (a * 10 + (c.toNat - 48)) l < 1844674407370955161 := hv
    unfold Lib.parseUint10
    rw [if_pos hc, if_neg (by omega), if_neg (by omega)]
    exact parse_digits l _ (fun x hx => h x (by simp [hx])) hv'
theorem atoi_dec (u : Nat) (h : u < 1000000000) : Lib.atoiAll (Lib.decDigits u) = .ok (u : Int) := by
  have hd := dec_dgt u
  have hv := dec_val u
  have hne := dec_ne u
  generalize Lib.decDigits u = l at *
  cases l with
  | nil => exact absurd rfl hne
  | cons c r =>
    have hc := (dgt_is c).1 (hd c (by simp))
    have hp : Lib.parseMag (c :: r) = .ok u := by
      unfold Lib.parseMag
      rw [if_neg (by simp), parse_digits _ _ hd (by omega), hv]
    unfold Lib.atoiAll
    simp only []
    rw [if_neg (by omega), hp]
    simp only []
    rw [if_neg (by omega), if_neg (by omega), if_neg (by omega)]
end Go.Proofs.YtcfeihimmboghaaGreatDoor.U

end
section
namespace Go.Proofs.YtcfeihimmboghaaGreatDoor.U
open Go Go.RowKit Go.Proofs.YtcfeihimmboghaaGreatDoorW.PrintWords
set_option linter.unusedVariables false
set_option linter.unusedSimpArgs false
def szOut (left w : Int) : Int := if w ≤ left then left - w else -1
theorem szOut_neg {left w : Int} (h : left < w) : szOut left w = -1 := by unfold szOut; rw [if_neg (by omega)]
theorem szOut_pos {left w : Int} (h : w ≤ left) : szOut left w = left - w := by unfold szOut; rw [if_pos h]
def Room (x : Int) : Prop := 0 ≤ x ∧ x ≤ 1048576
theorem room_le {left w : Int} (hl : Room left) (hw : 0 ≤ w) (h : w ≤ left) : Room (left - w) := by unfold Room at *; omega
theorem room_sub {left : Int} {n : Nat} (hl : Room left) (hn : n ≤ maxLen) : wrap64 (left - (n : Int)) = left - n := by
  unfold Room at hl; exact w64 (by unfold maxLen at hn; omega) (by omega)
theorem szOut_add {left v w : Int} (hv : 0 ≤ v) (hw : 0 ≤ w) (h : v ≤ left) : szOut (left - v) w = szOut left (v + w) := by
  unfold szOut; by_cases h1 : w ≤ left - v
  · rw [if_pos h1, if_pos (by omega)]; omega
  · rw [if_neg h1, if_neg (by omega)]
def Sz (g : Nat → Int → Option Int) (w : Int) : Prop := 0 ≤ w ∧ ∀ left, Room left → Ev (fun k => g k left) (szOut left w)
theorem sz_cut {left : Int} {n : Nat} {w : Int} {f : Nat → Option Int} (hl : Room left) (hn : n ≤ maxLen) (hw : 0 ≤ w)
    (h : (n : Int) ≤ left → Room (left - n) → Ev f (szOut (left - n) w)) : Ev (fun k => if wrap64 (left - (n : Int)) < 0 then some (-1) else f k) (szOut left (n + w)) := by
  rw [room_sub hl hn]
  by_cases h0 : left - (n : Int) < 0
  · rw [szOut_neg (by omega)]; exact ev_pos h0 (Ev.now _)
  · refine ev_neg h0 ?_; rw [← szOut_add (by omega) hw (by omega)]; exact h (by omega) (room_le hl (by omega) (by omega))
theorem sz_last {left : Int} {n : Nat} (hl : Room left) (hn : n ≤ maxLen) : Ev (fun _ => if wrap64 (left - (n : Int)) < 0 then some (-1) else some (wrap64 (left - (n : Int)))) (szOut left n) := by
  rw [room_sub hl hn]
  by_cases h0 : left - (n : Int) < 0
  · rw [szOut_neg (by omega)]; exact ev_pos h0 (Ev.now _)
  · refine ev_neg h0 ?_; rw [szOut_pos (by omega)]; exact Ev.now _
theorem sz_call {left v w : Int} {g : Nat → Int → Option Int} {f : Nat → Int → Option Int} (hg : Sz g v) (hl : Room left) (hw : 0 ≤ w)
    (h : v ≤ left → Room (left - v) → Ev (fun k => f k (left - v)) (szOut (left - v) w)) : Ev (fun k => (g k left).bind fun t => if t < 0 then some (-1) else f k t) (szOut left (v + w)) := by
  refine Ev.bind (hg.2 left hl) ?_
  by_cases h0 : v ≤ left
  · rw [szOut_pos h0]; refine ev_neg (by omega) ?_; rw [← szOut_add hg.1 hw h0]; exact h h0 (room_le hl hg.1 h0)
  · rw [szOut_neg (by omega), szOut_neg (by omega)]; exact ev_pos (by omega) (Ev.now _)
theorem sz_end {left : Int} : Ev (fun _ => some left) (szOut left 0) ∨ left < 0 := by
  by_cases h : left < 0
  · exact Or.inr h
  · left; rw [szOut_pos (by omega)]; simpa using Ev.now left
theorem sz_done {left : Int} (h : Room left) : Ev (fun _ => some left) (szOut left 0) := by
  rw [szOut_pos (by unfold Room at h; omega)]; simpa using Ev.now left
def sumW {α : Type} (w : α → Int) : List α → Int
  | [] => 0
  | x :: l => w x + sumW w l
theorem sumW_nonneg {α : Type} {w : α → Int} {l : List α} (h : ∀ x ∈ l, 0 ≤ w x) : 0 ≤ sumW w l := by
  induction l with
  | nil => simp [sumW]
  | cons x l ih => have := h x (by simp); have := ih fun y hy => h y (by simp [hy]); simp only [sumW]; omega
theorem sumW_mem {α : Type} {w : α → Int} {l : List α} (h : ∀ x ∈ l, 0 ≤ w x) {x : α} (hx : x ∈ l) : w x ≤ sumW w l := by
  induction l with
  | nil => simp at hx
  | cons y l ih =>
    have h1 := h y (by simp); have h2 : 0 ≤ sumW w l := sumW_nonneg fun z hz => h z (by simp [hz])
    simp only [sumW]
    rcases List.mem_cons.1 hx with rfl | hx
    · omega
    · have := ih (fun z hz => h z (by simp [hz])) hx; omega
def wList {α : Type} (w : α → Int) (l : List α) : Int := l.length + sumW w l
theorem wList_nonneg {α : Type} {w : α → Int} {l : List α} (h : ∀ x ∈ l, 0 ≤ w x) : 0 ≤ wList w l := by
  have := sumW_nonneg h; unfold wList; omega
theorem wList_len {α : Type} {w : α → Int} {l : List α} (h : ∀ x ∈ l, 0 ≤ w x) : (l.length : Int) ≤ wList w l := by
  have := sumW_nonneg h; unfold wList; omega
theorem wList_mem {α : Type} {w : α → Int} {l : List α} (h : ∀ x ∈ l, 0 ≤ w x) {x : α} (hx : x ∈ l) : w x ≤ wList w l := by
  have := sumW_mem h hx; unfold wList; omega
theorem getD_mem {α : Type} (l : List α) (i : Nat) (z : α) (h : i < l.length) : l.getD i z ∈ l := by
  rw [List.getD_eq_getElem?_getD, List.getElem?_eq_getElem h]; exact List.getElem_mem h
theorem drop_getD {α : Type} (l : List α) (i : Nat) (z : α) (h : i < l.length) : l.drop i = l.getD i z :: l.drop (i + 1) := by
  rw [List.getD_eq_getElem?_getD, List.getElem?_eq_getElem h]; exact List.drop_eq_getElem_cons h
theorem sz_loop {α : Type} (l : List α) (z : α) (w : α → Int) (g : Nat → Int → Int → Option Int) (s : Nat → α → Int → Option Int) (hlen : l.length ≤ maxLen)
    (hin : ∀ k (i : Nat) st, i < l.length → g (k + 1) (i : Int) st = (s k (l.getD i z) st).bind fun t => if t < 0 then some (-1) else g k (wrap64 ((i : Int) + 1)) t)
    (hend : ∀ k st, g (k + 1) (l.length : Int) st = some st)
    (hs : ∀ x ∈ l, Sz (fun k left => s k x left) (w x)) :
    ∀ left, Room left → Ev (fun k => g k 0 left) (szOut left (sumW w l)) := by
  have hw : ∀ x ∈ l, 0 ≤ w x := fun x hx => (hs x hx).1
  have key : ∀ d i st, i + d = l.length → Room st → Ev (fun k => g k (i : Int) st) (szOut st (sumW w (l.drop i))) := by
    intro d
    induction d with
    | zero =>
      intro i st hi hr
      have e : i = l.length := by omega
      subst e
      rw [List.drop_length]
      exact Ev.step (by intro k; rw [hend]) (sz_done hr)
    | succ d ih =>
      intro i st hi hr
      have h : i < l.length := by omega
      rw [drop_getD l i z h]
      refine Ev.step (fun k => hin k i st h) ?_
      refine sz_call (g := fun k left => s k (l.getD i z) left) (hs _ (getD_mem l i z h)) hr (sumW_nonneg fun x hx => hw x (List.mem_of_mem_drop hx)) fun _ hr' => ?_
      rw [inc i (by unfold maxLen at hlen; omega)]
      exact ih (i + 1) _ (by omega) hr'
  intro left hl
  exact key l.length 0 left (by omega) hl
theorem to_loop {α β : Type} (l : List α) (z : α) (y : β) (f : α → β) (g : Nat → Int → List β → Option (List β)) (hlen : l.length ≤ maxLen)
    (hin : ∀ k (i : Nat) st, i < l.length → st.length = l.length → g (k + 1) (i : Int) st = g k (wrap64 ((i : Int) + 1)) (st.set i (f (l.getD i z))))
    (hend : ∀ k st, g (k + 1) (l.length : Int) st = some st) :
    Ev (fun k => g k 0 (List.replicate l.length y)) (l.map f) := by
  have key : ∀ d i st, i + d = l.length → st.length = l.length → Ev (fun k => g k (i : Int) st) (st.take i ++ (l.drop i).map f) := by
    intro d
    induction d with
    | zero =>
      intro i st hi hs
      have e : i = l.length := by omega
      subst e
      rw [List.drop_length]
      exact Ev.step (by intro k; rw [hend]) (ev_use (Ev.now _) (by rw [← hs, List.take_length]; simp))
    | succ d ih =>
      intro i st hi hs
      have h : i < l.length := by omega
      rw [drop_getD l i z h]
      refine Ev.step (fun k => hin k i st h hs) ?_
      rw [inc i (by unfold maxLen at hlen; omega)]
      refine ev_use (ih (i + 1) _ (by omega) (by simpa using hs)) ?_
      have h2 : i < st.length := by omega
      rw [List.take_succ_eq_append_getElem (by simpa using h2)]
      simp [List.take_set_of_le]
  have := key l.length 0 (List.replicate l.length y) (by omega) (by simp)
  simpa using this
theorem to_loop2 {α β : Type} (l : List α) (z : α) (y : β) (f : α → β) (g : Nat → Int → List β → Option (List β)) (p : Nat → α → Option β) (hlen : l.length ≤ maxLen)
    (hin : ∀ k (i : Nat) st, i < l.length → st.length = l.length → g (k + 1) (i : Int) st = (p k (l.getD i z)).bind fun b => g k (wrap64 ((i : Int) + 1)) (st.set i b))
    (hend : ∀ k st, g (k + 1) (l.length : Int) st = some st)
    (hp : ∀ x ∈ l, Ev (fun k => p k x) (f x)) :
    Ev (fun k => g k 0 (List.replicate l.length y)) (l.map f) := by
  have key : ∀ d i st, i + d = l.length → st.length = l.length → Ev (fun k => g k (i : Int) st) (st.take i ++ (l.drop i).map f) := by
    intro d
    induction d with
    | zero =>
      intro i st hi hs
      have e : i = l.length := by omega
      subst e
      rw [List.drop_length]
      exact Ev.step (by intro k; rw [hend]) (ev_use (Ev.now _) (by rw [← hs, List.take_length]; simp))
    | succ d ih =>
      intro i st hi hs
      have h : i < l.length := by omega
      rw [drop_getD l i z h]
      refine Ev.step (fun k => hin k i st h hs) ?_
      refine Ev.bind (hp _ (getD_mem l i z h)) ?_
      rw [inc i (by unfold maxLen at hlen; omega)]
      refine ev_use (ih (i + 1) _ (by omega) (by simpa using hs)) ?_
      have h2 : i < st.length := by omega
      rw [List.take_succ_eq_append_getElem (by simpa using h2)]
      simp [List.take_set_of_le]
  have := key l.length 0 (List.replicate l.length y) (by omega) (by simp)
  simpa using this
theorem eq_loop {α : Type} (l : List α) (z : α) (g : Nat → Int → Option Bool) (e : Nat → α → Option Bool) (hlen : l.length ≤ maxLen)
    (hin : ∀ k (i : Nat), i < l.length → g (k + 1) (i : Int) = (e k (l.getD i z)).bind fun t => if t = true then g k (wrap64 ((i : Int) + 1)) else some false)
    (hend : ∀ k, g (k + 1) (l.length : Int) = some true)
    (he : ∀ x ∈ l, Ev (fun k => e k x) true) : Ev (fun k => g k 0) true := by
  have key : ∀ d i, i + d = l.length → Ev (fun k => g k (i : Int)) true := by
    intro d
    induction d with
    | zero =>
      intro i hi
      have e : i = l.length := by omega
      subst e
      exact Ev.step (by intro k; rw [hend]) (Ev.now true)
    | succ d ih =>
      intro i hi
      have h : i < l.length := by omega
      refine Ev.step (fun k => hin k i h) ?_
      refine Ev.bind (he _ (getD_mem l i z h)) ?_
      refine ev_pos rfl ?_
      rw [inc i (by unfold maxLen at hlen; omega)]
      exact ih (i + 1) (by omega)
  exact key l.length 0 (by omega)
theorem sz_cut' {left : Int} {n : Nat} {w : Int} {f : Nat → Option Int} (hl : Room left) (hw : 0 ≤ w)
    (h : (n : Int) ≤ left → Room (left - n) → Ev f (szOut (left - n) w)) : Ev (fun k => if left - (n : Int) < 0 then some (-1) else f k) (szOut left (n + w)) := by
  by_cases h0 : left - (n : Int) < 0
  · rw [szOut_neg (by omega)]; exact ev_pos h0 (Ev.now _)
  · refine ev_neg h0 ?_; rw [← szOut_add (by omega) hw (by omega)]; exact h (by omega) (room_le hl (by omega) (by omega))
theorem room_all : Room 1048576 := by unfold Room; omega
theorem law_sz {w : Int} {g : Nat → Int → Option Int} {f : Nat → Option Bool} (hg : Sz g w) (h : w ≤ 1048576 → Ev f true) : Ev (fun k => (g k 1048576).bind fun t => if t < 0 then some true else f k) true := by
  refine Ev.bind (hg.2 1048576 room_all) ?_
  by_cases h0 : w ≤ 1048576
  · rw [szOut_pos h0]; exact ev_neg (by omega) (h h0)
  · rw [szOut_neg (by omega)]; exact ev_pos (by omega) (Ev.now _)
def w_StringS (l : List ByteArray) : Int := wList (fun s => (s.size : Int)) l
theorem w_StringS_nonneg (l : List ByteArray) : 0 ≤ w_StringS l := wList_nonneg fun x _ => by omega
theorem w_StringS_len (l : List ByteArray) : (l.length : Int) ≤ w_StringS l := wList_len fun x _ => by omega
theorem w_StringS_mem {l : List ByteArray} {x : ByteArray} (hx : x ∈ l) : (x.size : Int) ≤ w_StringS l := wList_mem (w := fun s : ByteArray => (s.size : Int)) (fun x _ => by omega) hx
end Go.Proofs.YtcfeihimmboghaaGreatDoor.U

end
section
namespace Go.Proofs.YtcfeihimmboghaaGreatDoor.U
open Go Go.RowKit Go.Proofs.YtcfeihimmboghaaGreatDoorW.PrintWords Go.Proofs.YtcfeihimmboghaaGreatDoor.G
set_option linter.unusedVariables false
def digits0 : ByteArray := ⟨#[48, 49, 50, 51, 52, 53, 54, 55, 56, 57]⟩
theorem digit_at (i : Nat) (h : i < 10) : digits0.extract i (i + 1) = S [UInt8.ofNat (48 + i)] := by
  apply L_inj
  rw [L_extract, L_S]
  have : ∀ j : Fin 10, ((L digits0).drop j.1).take (j.1 + 1 - j.1) = [UInt8.ofNat (48 + j.1)] := by decide
  exact this ⟨i, h⟩
def dig (u : Nat) : B := if u = 0 then [] else Lib.decDigits u
theorem dig_step (u : Nat) (h : u ≠ 0) : dig u = dig (u / 10) ++ [UInt8.ofNat (48 + u % 10)] := by
  unfold dig
  rw [if_neg h]
  by_cases h1 : u < 10
  · rw [if_pos (by omega)]
    unfold Lib.decDigits
    rw [dif_pos h1, Nat.mod_eq_of_lt h1]; rfl
  · rw [if_neg (by omega)]
    conv => lhs; unfold Lib.decDigits
    rw [dif_neg h1]
theorem dec_arith (x4 : Int) (u : Nat) (h4 : x4.natAbs = u) (hlo : -9223372036854775808 ≤ x4) (hhi : x4 ≤ 9223372036854775807) :
    (Int.tdiv x4 10).natAbs = u / 10 ∧ (Int.tmod x4 10).natAbs = u % 10 ∧ -922337203685477580 ≤ Int.tdiv x4 10 ∧ Int.tdiv x4 10 ≤ 922337203685477580 := by
  have hd : (Int.tdiv x4 10).natAbs = u / 10 := by rw [Int.natAbs_tdiv, h4]; rfl
  have hm : (Int.tmod x4 10).natAbs = u % 10 := by rw [Int.natAbs_tmod, h4]; rfl
  refine ⟨hd, hm, ?_, ?_⟩ <;> omega
theorem dec_idx (t : Int) (v : Nat) (hv : v < 10) (hm : t.natAbs = v) (hn : t < 0) : wrap64 (-t) = (v : Int) := by rw [w64 (by omega) (by omega)]; omega
theorem dec_end (x0 : Int) (x3 : ByteArray) (h : x3.size ≤ 40) (k : Nat) : spec_DecText.l0 (k + 1) x0 x3 0 = some (S ((if x0 < 0 then [45] else []) ++ (dig 0 ++ L x3))) := by
  rw [spec_DecText.l0, if_pos rfl]
  by_cases hn : x0 < 0
  · rw [if_pos hn, if_pos hn, if_pos (by omega)]; rfl
  · rw [if_neg hn, if_neg hn]; rfl
theorem dec_go (x0 x4 t q : Int) (x3 : ByteArray) (v : Nat) (hv : v < 10) (hx : ¬ x4 = 0) (hT : Int.tmod x4 10 = t) (hQ : Int.tdiv x4 10 = q) (hq : wrap64 q = q) (hm : t.natAbs = v) (h3 : x3.size ≤ 40) (k : Nat) :
    spec_DecText.l0 (k + 1) x0 x3 x4 = spec_DecText.l0 k x0 (S [UInt8.ofNat (48 + v)] ++ x3) q := by
  have hone : (S [UInt8.ofNat (48 + v)]).size = 1 := by rw [size_S]; rfl
  have e2 : wrap64 ((v : Int) + 1) = ((v + 1 : Nat) : Int) := wa1 _ (by omega)
  have e3 := digit_at v hv
  unfold digits0 at e3
  have b1 : (0 : Int) ≤ (v : Int) := by omega
  have b2 : (v : Int) ≤ ((v + 1 : Nat) : Int) := by omega
  have b3 : ((v + 1 : Nat) : Int) ≤ 10 := by omega
  have b4 : (S [UInt8.ofNat (48 + v)]).size + x3.size ≤ 9223372036854775807 := by rw [hone]; omega
  rw [spec_DecText.l0, if_neg hx, hT, hQ, hq]
  by_cases hn : t < 0
  · rw [if_pos hn, dec_idx t v hv hm hn, e2, if_pos b1, if_pos b2, if_pos b3, Int.toNat_natCast, Int.toNat_natCast, e3, if_pos b4]
  · have e1 : t = (v : Int) := by omega
    rw [if_neg hn, e1, e2, if_pos b1, if_pos b2, if_pos b3, Int.toNat_natCast, Int.toNat_natCast, e3, if_pos b4]
theorem spec_DecText_l (x0 : Int) : ∀ d (u : Nat) (x4 : Int) (x3 : ByteArray), u < 10 ^ d → x4.natAbs = u → -9223372036854775808 ≤ x4 → x4 ≤ 9223372036854775807 → x3.size + d ≤ 40 →
    Ev (fun k => spec_DecText.l0 k x0 x3 x4) (S ((if x0 < 0 then [45] else []) ++ (dig u ++ L x3))) := by
  intro d
  induction d with
  | zero =>
    intro u x4 x3 hu h4 _ _ hs
    have e2 : u = 0 := by simpa using hu
    subst e2
    have e : x4 = 0 := Int.natAbs_eq_zero.1 h4
    subst e
    exact Ev.step (f := fun _ => some _) (dec_end x0 x3 (by omega)) (Ev.now _)
  | succ d ih =>
    intro u x4 x3 hu h4 hlo hhi hs
    by_cases hz : u = 0
    · subst hz
      have e : x4 = 0 := Int.natAbs_eq_zero.1 h4
      subst e
      exact Ev.step (f := fun _ => some _) (dec_end x0 x3 (by omega)) (Ev.now _)
    · have hx : ¬ x4 = 0 := fun e => hz (by rw [← h4, e]; rfl)
      obtain ⟨hd, hm, q1, q2⟩ := dec_arith x4 u h4 hlo hhi
      have h10 : u / 10 < 10 ^ d := by rw [Nat.div_lt_iff_lt_mul (by decide)]; rw [Nat.pow_succ] at hu; exact hu
      have hone : (S [UInt8.ofNat (48 + u % 10)]).size = 1 := by rw [size_S]; rfl
      clear hu h4
      rw [dig_step u hz]
      refine Ev.step (dec_go x0 x4 _ _ x3 (u % 10) (Nat.mod_lt _ (by decide)) hx rfl rfl (w64 (by omega) (by omega)) hm (by omega)) ?_
      refine ev_use (ih (u / 10) _ (S [UInt8.ofNat (48 + u % 10)] ++ x3) h10 hd (by omega) (by omega) (by rw [ByteArray.size_append, hone]; omega)) ?_
      rw [L_append, L_S]; simp
theorem itoa_dig (n : Int) (h : n ≠ 0) : Lib.itoa n = (if n < 0 then [45] else []) ++ dig n.natAbs := by
  unfold Lib.itoa dig
  by_cases hn : n < 0
  · rw [if_pos hn, if_pos hn, if_neg (by omega)]; rfl
  · rw [if_neg hn, if_neg hn, if_neg (by omega)]
    have : n.toNat = n.natAbs := by omega
    rw [this]; rfl
theorem spec_DecText_ev (n : Int) (h0 : -9223372036854775808 ≤ n) (h1 : n ≤ 9223372036854775807) : Ev (fun k => spec_DecText.f k n) (S (Lib.itoa n)) := by
  unfold spec_DecText.f
  by_cases h : n = 0
  · subst h; refine ev_pos rfl (ev_use (Ev.now _) ?_)
    apply L_inj; rw [L_S]; unfold Lib.itoa; rw [if_neg (by omega)]; unfold Lib.decDigits; rw [dif_pos (by decide)]; rfl
  · refine ev_neg h ?_
    rw [itoa_dig n h]
    refine ev_use (spec_DecText_l n 20 n.natAbs n ⟨#[]⟩ (by omega) rfl h0 h1 (by decide)) ?_
    congr 1
    show _ ++ (_ ++ ([] : B)) = _
    rw [List.append_nil]
theorem impl_DecText_eq (n : Int) (h0 : -9223372036854775808 ≤ n) (h1 : n ≤ 9223372036854775807) : impl_DecText.f n = some (S (Lib.itoa n)) := by
  unfold impl_DecText.f strconv_Itoa.f
  rw [if_pos ⟨h0, h1⟩]; rfl
end Go.Proofs.YtcfeihimmboghaaGreatDoor.U

end
section
namespace Go.Proofs.YtcfeihimmboghaaGreatDoor.U
open Go Go.RowKit Go.Proofs.YtcfeihimmboghaaGreatDoorW.PrintWords Go.Proofs.YtcfeihimmboghaaGreatDoor.G
theorem spec_l01In_eq (a b c : Int) : spec_l01In.f a b c = some (decide (b ≤ a ∧ a ≤ c)) := by
  unfold spec_l01In.f
  by_cases h : a ≥ b
  · rw [if_pos h]; by_cases h2 : a ≤ c <;> simp [h2] <;> omega
  · rw [if_neg h]; simp; omega
theorem impl_within_eq (a b c : Int) : impl_within.f a b c = some (decide (b ≤ a ∧ a ≤ c)) := by
  unfold impl_within.f
  by_cases h : b ≤ a
  · rw [if_pos h]; by_cases h2 : a ≤ c <;> simp [h2, h]
  · rw [if_neg h]; simp [h]
end Go.Proofs.YtcfeihimmboghaaGreatDoor.U

end
section
namespace Go.Proofs.YtcfeihimmboghaaGreatDoor.U
open Go Go.RowKit Go.Proofs.YtcfeihimmboghaaGreatDoorW.PrintWords Go.Proofs.YtcfeihimmboghaaGreatDoor.G
set_option linter.unusedVariables false
set_option linter.unusedSimpArgs false
theorem itoa_nat (u : Nat) : Lib.itoa (u : Int) = Lib.decDigits u := by unfold Lib.itoa; rw [if_neg (by omega)]; simp
theorem rdec_bad {l : B} (h : ∃ c ∈ l, dgt c = false) : rdec l = -1 := by
  unfold rdec
  rw [if_neg]
  rintro ⟨_, e⟩
  obtain ⟨c, hc, hd⟩ := h
  have := dec_dgt (val10 0 l) c (by rw [e]; exact hc)
  rw [hd] at this; cases this
theorem rdec_long {l : B} (h : 9 < l.length) : rdec l = -1 := by
  unfold rdec
  rw [if_neg]
  rintro ⟨e, _⟩; omega
theorem impl_ReadDec_eq (s : ByteArray) (hs : s.size ≤ 1099511627776) : impl_ReadDec.f s = some (rdec (L s)) := by
  unfold impl_ReadDec.f
  rw [if_pos (by omega)]
  show (match Lib.atoiAll (L s) with | .ok n => _ | _ => some (-1)) = _
  by_cases hr : rdec (L s) = -1
  · rw [hr]
    cases ha : Lib.atoiAll (L s) with
    | ok n =>
      simp only []
      rw [impl_within_eq, Option.bind_some]
      by_cases hn : 0 ≤ n ∧ n ≤ 999999999
      · rw [if_pos (decide_eq_true hn), impl_DecText_eq n (by omega) (by omega), Option.bind_some, toList_S, toList_L]
        by_cases e : Lib.itoa n = L s
        · exfalso
          have hu : n = ((n.toNat : Nat) : Int) := by omega
          rw [hu, itoa_nat] at e
          rw [← e, rdec_dec _ (by omega)] at hr
          omega
        · rw [if_neg e]
      · rw [if_neg (by simpa using hn)]
    | _ => rfl
  · obtain ⟨u, hu, hl, hv⟩ := rdec_some hr
    rw [hv, hl, atoi_dec u hu]
    simp only []
    rw [impl_within_eq, Option.bind_some, if_pos (decide_eq_true (by omega)), impl_DecText_eq _ (by omega) (by omega), Option.bind_some, toList_S, toList_L, hl, itoa_nat, if_pos rfl]
theorem step10 (a : Nat) (c : UInt8) (ha : a < 1000000000) (hc : dgt c = true) : wrap64 ((wrap64 ((wrap64 (10 * (a : Int))) + (wrap64 (c.toNat : Int)))) - 48) = ((a * 10 + (c.toNat - 48) : Nat) : Int) := by
  have h := (dgt_is c).1 hc
  rw [w64 (n := 10 * (a : Int)) (by omega) (by omega), w64 (n := (c.toNat : Int)) (by omega) (by omega), w64 (n := 10 * (a : Int) + (c.toNat : Int)) (by omega) (by omega), w64 (by omega) (by omega)]
  omega
theorem spec_ReadDec_ev (s : ByteArray) (hs : s.size ≤ 1099511627776) : Ev (fun k => spec_ReadDec.f k s) (rdec (L s)) := by
  have hsz := size_L s
  have key : ∀ (d i : Nat), i + d = (L s).length → i ≤ 9 → (∀ c ∈ (L s).take i, dgt c = true) → Ev (fun k => spec_ReadDec.l0 k s (val10 0 ((L s).take i) : Int) (i : Int)) (rdec (L s)) := by
    intro d
    induction d with
    | zero =>
      intro i hi h9 hall
      have e : (L s).take i = L s := List.take_of_length_le (by omega)
      rw [e] at hall ⊢
      have hlt : val10 0 (L s) < 1000000000 := by
        have := val10_lt (L s) 0 hall
        have h2 : 10 ^ (L s).length ≤ 10 ^ 9 := Nat.pow_le_pow_right (by decide) (by omega)
        rw [p9] at h2; omega
      have hd := spec_DecText_ev ((val10 0 (L s) : Nat) : Int) (by omega) (by omega)
      rw [itoa_nat] at hd
      refine Ev.step (f := fun k => if s.toList = ([] : List UInt8) then some (-1) else (spec_DecText.f k ((val10 0 (L s) : Nat) : Int)).bind fun t => if t.toList = s.toList then some ((val10 0 (L s) : Nat) : Int) else some (-1)) (fun k => by rw [spec_ReadDec.l0, if_neg (by omega)]) ?_
      rw [toList_L]
      unfold rdec
      by_cases h0 : L s = []
      · refine ev_pos h0 (ev_use (Ev.now _) ?_)
        rw [if_neg]
        rintro ⟨_, e2⟩
        rw [h0] at e2
        exact dec_ne _ e2
      · refine ev_neg h0 (Ev.bind hd ?_)
        rw [toList_S]
        by_cases h1 : Lib.decDigits (val10 0 (L s)) = L s
        · exact ev_use (ev_pos h1 (Ev.now _)) (if_pos ⟨by omega, h1⟩).symm
        · exact ev_use (ev_neg h1 (Ev.now _)) (if_neg (fun h => h1 h.2)).symm
    | succ d ih =>
      intro i hi h9 hall
      have hlt : i < (L s).length := by omega
      have hb : bt s (i : Int) = ((at_ (L s) i).toNat : Int) := bt_nat s i
      have hby := byte_lt (at_ (L s) i)
      by_cases hc : dgt (at_ (L s) i) = true
      · by_cases hl : (L s).length > 9
        · refine Ev.step (f := fun k => some (-1)) (fun k => ?_) (ev_use (Ev.now _) (rdec_long hl).symm)
          rw [spec_ReadDec.l0, if_pos (by omega), if_pos (by omega), hb, spec_l01In_eq, Option.bind_some, w64 (by omega) (by omega), if_pos (decide_eq_true (by have := (dgt_is _).1 hc; omega)), if_pos (by omega)]
        · have htk : (L s).take (i + 1) = (L s).take i ++ [at_ (L s) i] := take_at _ _ hlt
          have hv : val10 0 ((L s).take (i + 1)) = val10 0 ((L s).take i) * 10 + ((at_ (L s) i).toNat - 48) := by rw [htk, val10_append]; rfl
          have hlt9 : val10 0 ((L s).take i) < 1000000000 := by
            have := val10_lt ((L s).take i) 0 hall
            have h2 : 10 ^ ((L s).take i).length ≤ 10 ^ 9 := Nat.pow_le_pow_right (by decide) (by rw [List.length_take]; omega)
            rw [p9] at h2; omega
          refine Ev.step (f := fun k => spec_ReadDec.l0 k s (val10 0 ((L s).take (i + 1)) : Int) ((i + 1 : Nat) : Int)) (fun k => ?_) (ih (i + 1) (by omega) (by omega) ?_)
          · rw [spec_ReadDec.l0, if_pos (by omega), if_pos (by omega), hb, spec_l01In_eq, Option.bind_some, w64 (n := ((at_ (L s) i).toNat : Int)) (by omega) (by omega), if_pos (decide_eq_true (by have := (dgt_is _).1 hc; omega)), if_neg (by omega), hv, wa1 i (by omega)]
            have := step10 (val10 0 ((L s).take i)) (at_ (L s) i) hlt9 hc
            rw [w64 (n := ((at_ (L s) i).toNat : Int)) (by omega) (by omega)] at this
            rw [this]
          · intro c hcm
            rw [htk, List.mem_append, List.mem_singleton] at hcm
            rcases hcm with h | rfl
            · exact hall c h
            · exact hc
      · have hbad : rdec (L s) = -1 := rdec_bad ⟨at_ (L s) i, by rw [at_eq _ _ hlt]; exact List.getElem_mem hlt, by simpa using hc⟩
        refine Ev.step (f := fun k => some (-1)) (fun k => ?_) (ev_use (Ev.now _) hbad.symm)
        rw [spec_ReadDec.l0, if_pos (by omega), if_pos (by omega), hb, spec_l01In_eq, Option.bind_some, w64 (by omega) (by omega), if_neg]
        rw [decide_eq_true_iff]
        intro h; exact hc ((dgt_is _).2 (by omega))
  have := key (L s).length 0 (by omega) (by omega) (by simp)
  exact this
theorem all_loop {α : Type} (l : List α) (z : α) (p : α → Bool) (last : Bool) (g : Nat → Int → Option Bool) (hend : Ev (fun k => g k (l.length : Int)) last)
    (hstep : ∀ (i : Nat) (r : Bool), i < l.length → Ev (fun k => g k ((i + 1 : Nat) : Int)) r → Ev (fun k => g k (i : Int)) (p (l.getD i z) && r)) : Ev (fun k => g k 0) (l.all p && last) := by
  have key : ∀ d i, i + d = l.length → Ev (fun k => g k (i : Int)) ((l.drop i).all p && last) := by
    intro d
    induction d with
    | zero =>
      intro i hi
      have e : i = l.length := by omega
      subst e
      rw [List.drop_length]; exact hend
    | succ d ih =>
      intro i hi
      rw [drop_getD l i z (by omega), List.all_cons, Bool.and_assoc]
      exact hstep i _ (by omega) (ih (i + 1) (by omega))
  have := key l.length 0 (by omega)
  exact this
theorem getD_at (l : B) (i : Nat) : l.getD i 0 = at_ l i := rfl
def isNum (l : B) : Bool := l.all dgt && (l != [])
def idc (c : UInt8) : Bool := decide (97 ≤ c.toNat ∧ c.toNat ≤ 122) || decide (65 ≤ c.toNat ∧ c.toNat ≤ 90) || decide (48 ≤ c.toNat ∧ c.toNat ≤ 57) || c == 45
def preOk (l : B) : Bool := l.all idc && (decide (1 ≤ l.length ∧ l.length ≤ 20) && (!isNum l || decide (0 ≤ rdec l)))
def num9 (n : Int) : Bool := decide (0 ≤ n ∧ n ≤ 999999999)
def verOk (a b c : Int) (l : List ByteArray) : Bool := (num9 a && num9 b && num9 c) && (l.all (fun p => preOk (L p)) && decide (l.length ≤ 5))
theorem spec_dgt (c : UInt8) : spec_l01In.f (wrap64 (c.toNat : Int)) 48 57 = some (dgt c) := by
  have := byte_lt c
  rw [spec_l01In_eq, w64 (by omega) (by omega)]
  congr 1
  unfold dgt
  by_cases h : 48 ≤ c.toNat ∧ c.toNat ≤ 57
  · rw [decide_eq_true h, decide_eq_true (by omega)]
  · rw [decide_eq_false h, decide_eq_false (by omega)]
theorem spec_l02Digits_ev (s : ByteArray) (hs : s.size ≤ 1099511627776) : Ev (fun k => spec_l02Digits.f k s) (isNum (L s)) := by
  have hsz := size_L s
  refine all_loop (L s) 0 dgt ((L s) != []) (fun k i => spec_l02Digits.l0 k s i) ?_ ?_
  · exact Ev.step (f := fun k => some (s.toList != ([] : List UInt8))) (fun k => by show spec_l02Digits.l0 (k + 1) s _ = _; rw [spec_l02Digits.l0, if_neg (by omega)]) (by rw [toList_L]; exact Ev.now _)
  · intro i r hi hr
    rw [getD_at]
    have hb : bt s (i : Int) = ((at_ (L s) i).toNat : Int) := bt_nat s i
    by_cases h : dgt (at_ (L s) i) = true
    · rw [h, Bool.true_and]
      refine Ev.step (fun k => ?_) hr
      show spec_l02Digits.l0 (k + 1) s _ = _
      rw [spec_l02Digits.l0, if_pos (by omega), if_pos (by omega), hb, spec_dgt, Option.bind_some, if_pos h, wa1 i (by omega)]
    · refine Ev.step (f := fun k => some false) (fun k => ?_) (by simp only [Bool.not_eq_true] at h; rw [h]; exact Ev.now _)
      show spec_l02Digits.l0 (k + 1) s _ = _
      rw [spec_l02Digits.l0, if_pos (by omega), if_pos (by omega), hb, spec_dgt, Option.bind_some, if_neg h]
theorem id_spec (c : UInt8) : ∃ a b, spec_l01Letter.f (c.toNat : Int) = some a ∧ spec_l01Great.f (c.toNat : Int) = some b ∧ idc c = (a || b || decide ((c.toNat : Int) = 45)) := by
  have ha : ∀ c : UInt8, spec_l01Letter.f (c.toNat : Int) = some (decide (97 ≤ c.toNat ∧ c.toNat ≤ 122) || decide (48 ≤ c.toNat ∧ c.toNat ≤ 57)) := by refine all_bytes ?_; decide +kernel
  have hb : ∀ c : UInt8, spec_l01Great.f (c.toNat : Int) = some (decide (65 ≤ c.toNat ∧ c.toNat ≤ 90)) := by refine all_bytes ?_; decide +kernel
  refine ⟨_, _, ha c, hb c, ?_⟩
  revert c; refine all_bytes ?_; decide +kernel
theorem spec_id {α : Type} (c : UInt8) (x : Option α) (y : Option α) : ((spec_l01Letter.f (c.toNat : Int)).bind fun t289 => (if t289 = true then x else ((spec_l01Great.f (c.toNat : Int)).bind fun t290 => (if t290 = true then x else (if (c.toNat : Int) = 45 then x else y))))) = if idc c = true then x else y := by
  obtain ⟨a, b, ha, hb, hc⟩ := id_spec c
  rw [ha, hb, hc, Option.bind_some, Option.bind_some]
  cases a <;> cases b <;> simp
theorem spec_l02Pre_ev (s : ByteArray) (hs : s.size ≤ 1099511627776) : Ev (fun k => spec_l02Pre.f k s) (preOk (L s)) := by
  have hsz := size_L s
  have hr := rdec_range (L s)
  refine all_loop (L s) 0 idc _ (fun k i => spec_l02Pre.l0 k s i) ?_ ?_
  · refine Ev.step (f := fun k => (spec_l01In.f (s.size : Int) 1 20).bind fun t286 => (if t286 = true then ((spec_l02Digits.f k s).bind fun t287 => (if t287 = true then ((spec_ReadDec.f k s).bind fun t288 => (some (decide (t288 ≥ 0)))) else (some true))) else (some false))) (fun k => by show spec_l02Pre.l0 (k + 1) s _ = _; rw [spec_l02Pre.l0, if_neg (by omega)]) ?_
    refine ev_const (spec_l01In_eq _ _ _) ?_
    by_cases h1 : 1 ≤ (L s).length ∧ (L s).length ≤ 20
    · rw [decide_eq_true h1, Bool.true_and]
      refine ev_pos (decide_eq_true (by omega)) (Ev.bind (spec_l02Digits_ev s hs) ?_)
      by_cases h2 : isNum (L s) = true
      · rw [h2, Bool.not_true, Bool.false_or]
        exact ev_pos rfl (Ev.bind (spec_ReadDec_ev s hs) (Ev.now _))
      · refine ev_use (ev_neg h2 (Ev.now _)) ?_
        simp only [Bool.not_eq_true] at h2; rw [h2]; rfl
    · rw [decide_eq_false h1]
      exact ev_neg (by simp; omega) (Ev.now _)
  · intro i r hi hr
    rw [getD_at]
    have hb : bt s (i : Int) = ((at_ (L s) i).toNat : Int) := bt_nat s i
    by_cases h : idc (at_ (L s) i) = true
    · rw [h, Bool.true_and]
      refine Ev.step (fun k => ?_) hr
      show spec_l02Pre.l0 (k + 1) s _ = _
      rw [spec_l02Pre.l0, if_pos (by omega), if_pos (by omega), hb, spec_id, if_pos h, wa1 i (by omega)]
    · refine Ev.step (f := fun k => some false) (fun k => ?_) (by simp only [Bool.not_eq_true] at h; rw [h]; exact Ev.now _)
      show spec_l02Pre.l0 (k + 1) s _ = _
      rw [spec_l02Pre.l0, if_pos (by omega), if_pos (by omega), hb, spec_id, if_neg h]
theorem spec_num9 (n : Int) : spec_l01In.f n 0 999999999 = some (num9 n) := spec_l01In_eq _ _ _
theorem impl_num9 (n : Int) : impl_within.f n 0 999999999 = some (num9 n) := impl_within_eq _ _ _
theorem len5 (n : Nat) : decide ((n : Int) ≤ 5) = decide (n ≤ 5) := by
  by_cases h : n ≤ 5
  · rw [decide_eq_true h, decide_eq_true (by omega)]
  · rw [decide_eq_false h, decide_eq_false (by omega)]
theorem spec_VersionOk_ev (a b c : Int) (l : List ByteArray) (hl : l.length ≤ 1125899906842624) (hs : ∀ x ∈ l, x.size ≤ 1099511627776) : Ev (fun k => spec_VersionOk.f k a b c l) (verOk a b c l) := by
  have hgo : Ev (fun k => spec_VersionOk.f k a b c l) (l.all (fun p => preOk (L p)) && (num9 a && (num9 b && (num9 c && decide (l.length ≤ 5))))) := by
    refine all_loop l ByteArray.empty (fun p => preOk (L p)) _ (fun k i => spec_VersionOk.l0 k i a b c l) ?_ ?_
    · refine Ev.step (f := fun k => some (num9 a && (num9 b && (num9 c && decide (l.length ≤ 5))))) (fun k => ?_) (Ev.now _)
      show spec_VersionOk.l0 (k + 1) _ a b c l = _
      rw [spec_VersionOk.l0, if_neg (by omega), spec_num9, spec_num9, spec_num9, len5]
      cases num9 a <;> cases num9 b <;> cases num9 c <;> rfl
    · intro i r hi hr
      have hx := spec_l02Pre_ev (l.getD i ByteArray.empty) (hs _ (getD_mem l i _ hi))
      refine Ev.step (f := fun k => (spec_l02Pre.f k (l.getD i ByteArray.empty)).bind fun t => if t = true then spec_VersionOk.l0 k ((i + 1 : Nat) : Int) a b c l else some false) (fun k => ?_) (Ev.bind hx ?_)
      · show spec_VersionOk.l0 (k + 1) _ a b c l = _
        rw [spec_VersionOk.l0, if_pos (by omega), if_pos (by omega), wa1 i (by omega)]; rfl
      · by_cases h : preOk (L (l.getD i ByteArray.empty)) = true
        · rw [h, Bool.true_and]; exact ev_pos rfl hr
        · simp only [Bool.not_eq_true] at h; rw [h]; exact ev_neg (by simp) (Ev.now _)
  refine ev_use hgo ?_
  unfold verOk
  cases num9 a <;> cases num9 b <;> cases num9 c <;> simp
theorem id_impl (c : UInt8) : impl_VersionOk_1.f (c.toNat : Int) = some (idc c) := by
  revert c; refine all_bytes ?_; decide +kernel
theorem impl_dgt (c : UInt8) : impl_isDigit.f (c.toNat : Int) = some (dgt c) := by
  revert c; refine all_bytes ?_; decide +kernel
theorem impl_all_id (s : ByteArray) (hs : s.size ≤ 1099511627776) : Ev (fun k => impl_all__impl_VersionOk_1.f k s) ((L s).all idc) := by
  have hsz := size_L s
  rw [← Bool.and_true ((L s).all idc)]
  refine all_loop (L s) 0 idc true (fun k i => impl_all__impl_VersionOk_1.l0 k s (s.size : Int) i) ?_ ?_
  · exact Ev.step (f := fun k => some true) (fun k => by show impl_all__impl_VersionOk_1.l0 (k + 1) s _ _ = _; rw [impl_all__impl_VersionOk_1.l0, if_neg (by omega)]) (Ev.now _)
  · intro i r hi hr
    rw [getD_at]
    have hb : bt s (i : Int) = ((at_ (L s) i).toNat : Int) := bt_nat s i
    by_cases h : idc (at_ (L s) i) = true
    · rw [h, Bool.true_and]
      refine Ev.step (fun k => ?_) hr
      show impl_all__impl_VersionOk_1.l0 (k + 1) s _ _ = _
      rw [impl_all__impl_VersionOk_1.l0, if_pos (by omega), if_pos (by omega), if_pos (by omega), hb, id_impl, Option.bind_some, if_pos h, wa1 i (by omega)]
    · refine Ev.step (f := fun k => some false) (fun k => ?_) (by simp only [Bool.not_eq_true] at h; rw [h]; exact Ev.now _)
      show impl_all__impl_VersionOk_1.l0 (k + 1) s _ _ = _
      rw [impl_all__impl_VersionOk_1.l0, if_pos (by omega), if_pos (by omega), if_pos (by omega), hb, id_impl, Option.bind_some, if_neg h]
theorem impl_all_dgt (s : ByteArray) (hs : s.size ≤ 1099511627776) : Ev (fun k => impl_all__impl_isDigit.f k s) ((L s).all dgt) := by
  have hsz := size_L s
  rw [← Bool.and_true ((L s).all dgt)]
  refine all_loop (L s) 0 dgt true (fun k i => impl_all__impl_isDigit.l0 k s (s.size : Int) i) ?_ ?_
  · exact Ev.step (f := fun k => some true) (fun k => by show impl_all__impl_isDigit.l0 (k + 1) s _ _ = _; rw [impl_all__impl_isDigit.l0, if_neg (by omega)]) (Ev.now _)
  · intro i r hi hr
    rw [getD_at]
    have hb : bt s (i : Int) = ((at_ (L s) i).toNat : Int) := bt_nat s i
    by_cases h : dgt (at_ (L s) i) = true
    · rw [h, Bool.true_and]
      refine Ev.step (fun k => ?_) hr
      show impl_all__impl_isDigit.l0 (k + 1) s _ _ = _
      rw [impl_all__impl_isDigit.l0, if_pos (by omega), if_pos (by omega), if_pos (by omega), hb, impl_dgt, Option.bind_some, if_pos h, wa1 i (by omega)]
    · refine Ev.step (f := fun k => some false) (fun k => ?_) (by simp only [Bool.not_eq_true] at h; rw [h]; exact Ev.now _)
      show impl_all__impl_isDigit.l0 (k + 1) s _ _ = _
      rw [impl_all__impl_isDigit.l0, if_pos (by omega), if_pos (by omega), if_pos (by omega), hb, impl_dgt, Option.bind_some, if_neg h]
theorem impl_isNumber_ev (s : ByteArray) (hs : s.size ≤ 1099511627776) : Ev (fun k => impl_isNumber.f k s) (isNum (L s)) := by
  unfold impl_isNumber.f isNum
  rw [toList_L]
  by_cases h : L s = []
  · refine ev_use (ev_pos h (Ev.now _)) ?_
    rw [h]; rfl
  · refine ev_use (ev_neg h (Ev.bind (impl_all_dgt s hs) (Ev.now _))) ?_
    have : (L s != []) = true := bne_iff_ne.2 h
    rw [this, Bool.and_true]
theorem impl_VersionOk_l1_ev (a b c : Int) (l : List ByteArray) (hl : l.length ≤ 1125899906842624) (hs : ∀ x ∈ l, x.size ≤ 1099511627776) : Ev (fun k => impl_VersionOk.l1 k l (l.length : Int) 0 a b c l) (l.all (fun p => preOk (L p)) && decide (l.length ≤ 5)) := by
  refine all_loop l ByteArray.empty (fun p => preOk (L p)) _ (fun k i => impl_VersionOk.l1 k l (l.length : Int) i a b c l) ?_ ?_
  · refine Ev.step (f := fun k => some (decide (l.length ≤ 5))) (fun k => ?_) (Ev.now _)
    show impl_VersionOk.l1 (k + 1) l _ _ a b c l = _
    rw [impl_VersionOk.l1, if_neg (by omega), len5]
  · intro i r hi hr
    have hm := hs _ (getD_mem l i ByteArray.empty hi)
    have ee : rdOf ByteArray.empty l (i : Int) = l.getD i ByteArray.empty := rfl
    refine Ev.step (f := fun k => (impl_within.f ((l.getD i ByteArray.empty).size : Int) 1 20).bind fun t320 => (if t320 = true then ((impl_all__impl_VersionOk_1.f k (l.getD i ByteArray.empty)).bind fun t321 => (if t321 = true then ((impl_isNumber.f k (l.getD i ByteArray.empty)).bind fun t322 => (if t322 = true then ((impl_ReadDec.f (l.getD i ByteArray.empty)).bind fun t323 => (if t323 < 0 then (some false) else (impl_VersionOk.l1 k l (l.length : Int) ((i + 1 : Nat) : Int) a b c l))) else (impl_VersionOk.l1 k l (l.length : Int) ((i + 1 : Nat) : Int) a b c l))) else (some false))) else (some false))) (fun k => ?_) ?_
    · show impl_VersionOk.l1 (k + 1) l _ _ a b c l = _
      rw [impl_VersionOk.l1, if_pos (by omega), if_pos (by omega), if_pos (by omega), wa1 i (by omega), ee]
    · generalize l.getD i ByteArray.empty = s at hm ⊢
      have hsz := size_L s
      refine ev_const (impl_within_eq _ _ _) ?_
      unfold preOk
      by_cases h1 : 1 ≤ (L s).length ∧ (L s).length ≤ 20
      · rw [decide_eq_true h1, Bool.true_and]
        refine ev_pos (decide_eq_true (by omega)) (Ev.bind (impl_all_id s hm) ?_)
        by_cases h2 : (L s).all idc = true
        · rw [h2, Bool.true_and]
          refine ev_pos rfl (Ev.bind (impl_isNumber_ev s hm) ?_)
          by_cases h3 : isNum (L s) = true
          · rw [h3, Bool.not_true, Bool.false_or]
            refine ev_pos rfl (ev_const (impl_ReadDec_eq s hm) ?_)
            by_cases h4 : 0 ≤ rdec (L s)
            · rw [decide_eq_true h4, Bool.true_and]; exact ev_neg (by omega) hr
            · rw [decide_eq_false h4, Bool.false_and]; exact ev_pos (by omega) (Ev.now _)
          · refine ev_neg h3 ?_
            simp only [Bool.not_eq_true] at h3; rw [h3, Bool.not_false, Bool.true_or, Bool.true_and]; exact hr
        · refine ev_neg h2 ?_
          simp only [Bool.not_eq_true] at h2; rw [h2]; exact Ev.now _
      · rw [decide_eq_false h1, Bool.false_and, Bool.and_false]
        exact ev_neg (by simp; omega) (Ev.now _)
theorem impl_VersionOk_ev (a b c : Int) (l : List ByteArray) (hl : l.length ≤ 1125899906842624) (hs : ∀ x ∈ l, x.size ≤ 1099511627776) : Ev (fun k => impl_VersionOk.f k a b c l) (verOk a b c l) := by
  have hgo : Ev (fun k => impl_VersionOk.l0 k [a, b, c] ((([a, b, c] : List Int).length : Nat) : Int) 0 a b c l) (([a, b, c] : List Int).all num9 && (l.all (fun p => preOk (L p)) && decide (l.length ≤ 5))) := by
    refine all_loop [a, b, c] 0 num9 _ (fun k i => impl_VersionOk.l0 k [a, b, c] ((([a, b, c] : List Int).length : Nat) : Int) i a b c l) ?_ ?_
    · refine Ev.step (fun k => ?_) (impl_VersionOk_l1_ev a b c l hl hs)
      show impl_VersionOk.l0 (k + 1) _ _ _ a b c l = _
      rw [impl_VersionOk.l0, if_neg (by omega)]
    · intro i r hi hr
      have ee : rd [a, b, c] (i : Int) = ([a, b, c] : List Int).getD i 0 := rfl
      have hi3 : i < 3 := hi
      refine Ev.step (f := fun k => if num9 (([a, b, c] : List Int).getD i 0) = true then impl_VersionOk.l0 k [a, b, c] ((([a, b, c] : List Int).length : Nat) : Int) ((i + 1 : Nat) : Int) a b c l else some false) (fun k => ?_) ?_
      · show impl_VersionOk.l0 (k + 1) _ _ _ a b c l = _
        rw [impl_VersionOk.l0, if_pos (by omega), if_pos (by omega), if_pos (by omega), wa1 i (by omega), ee, impl_num9, Option.bind_some]
      · by_cases h : num9 (([a, b, c] : List Int).getD i 0) = true
        · rw [h, Bool.true_and]; exact ev_pos rfl hr
        · simp only [Bool.not_eq_true] at h; rw [h]; exact ev_neg (by simp) (Ev.now _)
  refine ev_use (ev_some hgo) ?_
  unfold verOk
  simp [Bool.and_assoc]
end Go.Proofs.YtcfeihimmboghaaGreatDoor.U

end
