/- A part of the proof that the law FnExactGraphOk answers true at every input that its row speaks of. Conditions: the row's own. -/
import Derived.Test.YteldcmniknocpaaGreatDoorMFnExactGraphOk4
import Derived.Lib.AtoiAll
import Derived.Lib.ItoaNum
import Derived.Test.YteldcmniknocpaaGreatDoorKFnExactGraphOk0
import Derived.Test.YteldcmniknocpaaGreatDoorKFnExactGraphOk1
import Derived.Lib.SplitLaws
import Derived.Lib.Strings
import Derived.Lib.Join
import Derived.Lib.Bytealg
import Derived.Lib.IndexMore
section
namespace Go.Proofs.YteldcmniknocpaaGreatDoor.U
open Go Go.RowKit
set_option linter.unusedVariables false
def val10 (a : Nat) : B → Nat
  | [] => a
  | c :: l => val10 (a * 10 + (c.toNat - 48)) l
theorem val10_append : ∀ (l m : B) (a : Nat), val10 a (l ++ m) = val10 (val10 a l) m
  | [], m, a => rfl
  | c :: l, m, a => by rw [List.cons_append]; exact val10_append l m _
def dgt (c : UInt8) : Bool := decide (48 ≤ c.toNat ∧ c.toNat ≤ 57)
theorem dgt_is (c : UInt8) : dgt c = true ↔ 48 ≤ c.toNat ∧ c.toNat ≤ 57 := by unfold dgt; exact decide_eq_true_iff
theorem dgt_of (i : Nat) (h : i < 10) : (UInt8.ofNat (48 + i)).toNat = 48 + i := by rw [UInt8.toNat_ofNat']; omega
theorem decDigits_step (u : Nat) (h : ¬ u < 10) : Lib.decDigits u = Lib.decDigits (u / 10) ++ [UInt8.ofNat (48 + u % 10)] := by
  conv => lhs; unfold Lib.decDigits
  rw [dif_neg h]
theorem dec_digits : ∀ (n u : Nat), u < n → (∀ c ∈ Lib.decDigits u, dgt c = true) ∧ val10 0 (Lib.decDigits u) = u := by
  intro n
  induction n with
  | zero => intro u h; omega
  | succ n ih =>
    intro u hu
    by_cases h : u < 10
    · rw [Lib.decDigits_one h]
      refine ⟨fun c hc => ?_, ?_⟩
      · rw [List.mem_singleton] at hc; subst hc; rw [dgt_is, dgt_of u h]; omega
      · show 0 * 10 + ((UInt8.ofNat (48 + u)).toNat - 48) = u
        rw [dgt_of u h]; omega
    · rw [decDigits_step u h]
      obtain ⟨h1, h2⟩ := ih (u / 10) (by omega)
      refine ⟨fun c hc => ?_, ?_⟩
      · rw [List.mem_append, List.mem_singleton] at hc
        rcases hc with hc | rfl
        · exact h1 c hc
        · rw [dgt_is, dgt_of _ (Nat.mod_lt _ (by decide))]; omega
      · rw [val10_append, h2]
        show (u / 10) * 10 + ((UInt8.ofNat (48 + u % 10)).toNat - 48) = u
        rw [dgt_of _ (Nat.mod_lt _ (by decide))]; omega
theorem dec_dgt (u : Nat) : ∀ c ∈ Lib.decDigits u, dgt c = true := (dec_digits (u + 1) u (by omega)).1
theorem dec_val (u : Nat) : val10 0 (Lib.decDigits u) = u := (dec_digits (u + 1) u (by omega)).2
theorem dec_ne (u : Nat) : Lib.decDigits u ≠ [] := by
  intro h
  have := Lib.decDigits_length u
  rw [h] at this
  have := Lib.nDigits_pos u
  simp at *; omega
theorem dec_inj {u v : Nat} (h : Lib.decDigits u = Lib.decDigits v) : u = v := by rw [← dec_val u, ← dec_val v, h]
theorem dec_len_lt (u d : Nat) (h : (Lib.decDigits u).length ≤ d) : u < 10 ^ d := by
  rw [Lib.decDigits_length] at h
  exact Nat.lt_of_lt_of_le (Lib.lt_pow_nDigits u) (Nat.pow_le_pow_right (by decide) h)
theorem dec_len_le : ∀ (d u : Nat), u < 10 ^ (d + 1) → (Lib.decDigits u).length ≤ d + 1 := by
  intro d
  induction d with
  | zero => intro u h; rw [Lib.decDigits_one (by omega)]; simp
  | succ d ih =>
    intro u h
    by_cases h1 : u < 10
    · rw [Lib.decDigits_one h1]; simp
    · rw [decDigits_step u h1, List.length_append]
      have := ih (u / 10) (by rw [Nat.div_lt_iff_lt_mul (by decide)]; rw [Nat.pow_succ] at h; exact h)
      simp; omega
theorem val10_lt : ∀ (l : B) (a : Nat), (∀ c ∈ l, dgt c = true) → val10 a l < (a + 1) * 10 ^ l.length
  | [], a, _ => by rw [List.length_nil, Nat.pow_zero]; show a < (a + 1) * 1; omega
  | c :: l, a, h => by
    have hc := (dgt_is c).1 (h c (by simp))
    have := val10_lt l (a * 10 + (c.toNat - 48)) fun x hx => h x (by simp [hx])
    refine Nat.lt_of_lt_of_le this ?_
    rw [List.length_cons, Nat.pow_succ, Nat.mul_comm (10 ^ l.length) 10, ← Nat.mul_assoc]
    exact Nat.mul_le_mul_right _ (by omega)
theorem val10_ge : ∀ (l : B) (a : Nat), a ≤ val10 a l
  | [], a => Nat.le_refl _
  | c :: l, a => Nat.le_trans (by omega) (val10_ge l (a * 10 + (c.toNat - 48)))
def rdec (l : B) : Int := if l.length ≤ 9 ∧ Lib.decDigits (val10 0 l) = l then (val10 0 l : Int) else -1
theorem p9 : (10 : Nat) ^ 9 = 1000000000 := by decide
theorem rdec_dec (u : Nat) (h : u < 1000000000) : rdec (Lib.decDigits u) = u := by
  unfold rdec
  have h9 : (Lib.decDigits u).length ≤ 9 := dec_len_le 8 u (by rw [show 8 + 1 = 9 from rfl, p9]; exact h)
  rw [dec_val, if_pos ⟨h9, rfl⟩]
theorem rdec_some {l : B} (h : ¬ rdec l = -1) : ∃ u : Nat, u < 1000000000 ∧ l = Lib.decDigits u ∧ rdec l = u := by
  unfold rdec at h ⊢
  by_cases hc : l.length ≤ 9 ∧ Lib.decDigits (val10 0 l) = l
  · refine ⟨val10 0 l, ?_, hc.2.symm, by rw [if_pos hc]⟩
    rw [← p9]; exact dec_len_lt _ 9 (by rw [hc.2]; exact hc.1)
  · rw [if_neg hc] at h; exact absurd rfl h
theorem rdec_range (l : B) : -1 ≤ rdec l ∧ rdec l ≤ 999999999 := by
  by_cases h : rdec l = -1
  · omega
  · obtain ⟨u, h1, _, h2⟩ := rdec_some h; omega
theorem parse_digits : ∀ (l : B) (a : Nat), (∀ c ∈ l, dgt c = true) → val10 a l < 1844674407370955161 → Lib.parseUint10 a l = .ok (val10 a l)
  | [], a, _, _ => rfl
  | c :: l, a, h, hv => by
    have hc := (dgt_is c).1 (h c (by simp))
    have hg := val10_ge l (a * 10 + (c.toNat - 48))
    have hv' : val10 (a * 10 + (c.toNat - 48)) l < 1844674407370955161 := hv
    unfold Lib.parseUint10
    rw [if_pos hc, if_neg (by omega), if_neg (by omega)]
    exact parse_digits l _ (fun x hx => h x (by simp [hx])) hv'
theorem atoi_dec (u : Nat) (h : u < 1000000000) : Lib.atoiAll (Lib.decDigits u) = .ok (u : Int) := by
  have hd := dec_dgt u
  have hv := dec_val u
  have hne := dec_ne u
  generalize Lib.decDigits u = l at *
  cases l with
  | nil => exact absurd rfl hne
  | cons c r =>
    have hc := (dgt_is c).1 (hd c (by simp))
    have hp : Lib.parseMag (c :: r) = .ok u := by
      unfold Lib.parseMag
      rw [if_neg (by simp), parse_digits _ _ hd (by omega), hv]
    unfold Lib.atoiAll
    simp only []
    rw [if_neg (by omega), hp]
    simp only []
    rw [if_neg (by omega), if_neg (by omega), if_neg (by omega)]
end Go.Proofs.YteldcmniknocpaaGreatDoor.U

end
section
namespace Go.Proofs.YteldcmniknocpaaGreatDoor.U
open Go Go.RowKit Go.Proofs.YteldcmniknocpaaGreatDoorW.PrintWords
set_option linter.unusedVariables false
set_option linter.unusedSimpArgs false
def szOut (left w : Int) : Int := if w ≤ left then left - w else -1
theorem szOut_neg {left w : Int} (h : left < w) : szOut left w = -1 := by unfold szOut; rw [if_neg (by omega)]
theorem szOut_pos {left w : Int} (h : w ≤ left) : szOut left w = left - w := by unfold szOut; rw [if_pos h]
def Room (x : Int) : Prop := 0 ≤ x ∧ x ≤ 1048576
theorem room_le {left w : Int} (hl : Room left) (hw : 0 ≤ w) (h : w ≤ left) : Room (left - w) := by unfold Room at *; omega
theorem room_sub {left : Int} {n : Nat} (hl : Room left) (hn : n ≤ maxLen) : wrap64 (left - (n : Int)) = left - n := by
  unfold Room at hl; exact w64 (by unfold maxLen at hn; omega) (by omega)
theorem szOut_add {left v w : Int} (hv : 0 ≤ v) (hw : 0 ≤ w) (h : v ≤ left) : szOut (left - v) w = szOut left (v + w) := by
  unfold szOut; by_cases h1 : w ≤ left - v
  · rw [if_pos h1, if_pos (by omega)]; omega
  · rw [if_neg h1, if_neg (by omega)]
def Sz (g : Nat → Int → Option Int) (w : Int) : Prop := 0 ≤ w ∧ ∀ left, Room left → Ev (fun k => g k left) (szOut left w)
theorem sz_cut {left : Int} {n : Nat} {w : Int} {f : Nat → Option Int} (hl : Room left) (hn : n ≤ maxLen) (hw : 0 ≤ w)
    (h : (n : Int) ≤ left → Room (left - n) → Ev f (szOut (left - n) w)) : Ev (fun k => if wrap64 (left - (n : Int)) < 0 then some (-1) else f k) (szOut left (n + w)) := by
  rw [room_sub hl hn]
  by_cases h0 : left - (n : Int) < 0
  · rw [szOut_neg (by omega)]; exact ev_pos h0 (Ev.now _)
  · refine ev_neg h0 ?_; rw [← szOut_add (by omega) hw (by omega)]; exact h (by omega) (room_le hl (by omega) (by omega))
theorem sz_last {left : Int} {n : Nat} (hl : Room left) (hn : n ≤ maxLen) : Ev (fun _ => if wrap64 (left - (n : Int)) < 0 then some (-1) else some (wrap64 (left - (n : Int)))) (szOut left n) := by
  rw [room_sub hl hn]
  by_cases h0 : left - (n : Int) < 0
  · rw [szOut_neg (by omega)]; exact ev_pos h0 (Ev.now _)
  · refine ev_neg h0 ?_; rw [szOut_pos (by omega)]; exact Ev.now _
theorem sz_call {left v w : Int} {g : Nat → Int → Option Int} {f : Nat → Int → Option Int} (hg : Sz g v) (hl : Room left) (hw : 0 ≤ w)
    (h : v ≤ left → Room (left - v) → Ev (fun k => f k (left - v)) (szOut (left - v) w)) : Ev (fun k => (g k left).bind fun t => if t < 0 then some (-1) else f k t) (szOut left (v + w)) := by
  refine Ev.bind (hg.2 left hl) ?_
  by_cases h0 : v ≤ left
  · rw [szOut_pos h0]; refine ev_neg (by omega) ?_; rw [← szOut_add hg.1 hw h0]; exact h h0 (room_le hl hg.1 h0)
  · rw [szOut_neg (by omega), szOut_neg (by omega)]; exact ev_pos (by omega) (Ev.now _)
theorem sz_end {left : Int} : Ev (fun _ => some left) (szOut left 0) ∨ left < 0 := by
  by_cases h : left < 0
  · exact Or.inr h
  · left; rw [szOut_pos (by omega)]; simpa using Ev.now left
theorem sz_done {left : Int} (h : Room left) : Ev (fun _ => some left) (szOut left 0) := by
  rw [szOut_pos (by unfold Room at h; omega)]; simpa using Ev.now left
def sumW {α : Type} (w : α → Int) : List α → Int
  | [] => 0
  | x :: l => w x + sumW w l
theorem sumW_nonneg {α : Type} {w : α → Int} {l : List α} (h : ∀ x ∈ l, 0 ≤ w x) : 0 ≤ sumW w l := by
  induction l with
  | nil => simp [sumW]
  | cons x l ih => have := h x (by simp); have := ih fun y hy => h y (by simp [hy]); simp only [sumW]; omega
theorem sumW_mem {α : Type} {w : α → Int} {l : List α} (h : ∀ x ∈ l, 0 ≤ w x) {x : α} (hx : x ∈ l) : w x ≤ sumW w l := by
  induction l with
  | nil => simp at hx
  | cons y l ih =>
    have h1 := h y (by simp); have h2 : 0 ≤ sumW w l := sumW_nonneg fun z hz => h z (by simp [hz])
    simp only [sumW]
    rcases List.mem_cons.1 hx with rfl | hx
    · omega
    · have := ih (fun z hz => h z (by simp [hz])) hx; omega
def wList {α : Type} (w : α → Int) (l : List α) : Int := l.length + sumW w l
theorem wList_nonneg {α : Type} {w : α → Int} {l : List α} (h : ∀ x ∈ l, 0 ≤ w x) : 0 ≤ wList w l := by
  have := sumW_nonneg h; unfold wList; omega
theorem wList_len {α : Type} {w : α → Int} {l : List α} (h : ∀ x ∈ l, 0 ≤ w x) : (l.length : Int) ≤ wList w l := by
  have := sumW_nonneg h; unfold wList; omega
theorem wList_mem {α : Type} {w : α → Int} {l : List α} (h : ∀ x ∈ l, 0 ≤ w x) {x : α} (hx : x ∈ l) : w x ≤ wList w l := by
  have := sumW_mem h hx; unfold wList; omega
theorem getD_mem {α : Type} (l : List α) (i : Nat) (z : α) (h : i < l.length) : l.getD i z ∈ l := by
  rw [List.getD_eq_getElem?_getD, List.getElem?_eq_getElem h]; exact List.getElem_mem h
theorem drop_getD {α : Type} (l : List α) (i : Nat) (z : α) (h : i < l.length) : l.drop i = l.getD i z :: l.drop (i + 1) := by
  rw [List.getD_eq_getElem?_getD, List.getElem?_eq_getElem h]; exact List.drop_eq_getElem_cons h
theorem sz_loop {α : Type} (l : List α) (z : α) (w : α → Int) (g : Nat → Int → Int → Option Int) (s : Nat → α → Int → Option Int) (hlen : l.length ≤ maxLen)
    (hin : ∀ k (i : Nat) st, i < l.length → g (k + 1) (i : Int) st = (s k (l.getD i z) st).bind fun t => if t < 0 then some (-1) else g k (wrap64 ((i : Int) + 1)) t)
    (hend : ∀ k st, g (k + 1) (l.length : Int) st = some st)
    (hs : ∀ x ∈ l, Sz (fun k left => s k x left) (w x)) :
    ∀ left, Room left → Ev (fun k => g k 0 left) (szOut left (sumW w l)) := by
  have hw : ∀ x ∈ l, 0 ≤ w x := fun x hx => (hs x hx).1
  have key : ∀ d i st, i + d = l.length → Room st → Ev (fun k => g k (i : Int) st) (szOut st (sumW w (l.drop i))) := by
    intro d
    induction d with
    | zero =>
      intro i st hi hr
      have e : i = l.length := by omega
      subst e
      rw [List.drop_length]
      exact Ev.step (by intro k; rw [hend]) (sz_done hr)
    | succ d ih =>
      intro i st hi hr
      have h : i < l.length := by omega
      rw [drop_getD l i z h]
      refine Ev.step (fun k => hin k i st h) ?_
      refine sz_call (g := fun k left => s k (l.getD i z) left) (hs _ (getD_mem l i z h)) hr (sumW_nonneg fun x hx => hw x (List.mem_of_mem_drop hx)) fun _ hr' => ?_
      rw [inc i (by unfold maxLen at hlen; omega)]
      exact ih (i + 1) _ (by omega) hr'
  intro left hl
  exact key l.length 0 left (by omega) hl
theorem to_loop {α β : Type} (l : List α) (z : α) (y : β) (f : α → β) (g : Nat → Int → List β → Option (List β)) (hlen : l.length ≤ maxLen)
    (hin : ∀ k (i : Nat) st, i < l.length → st.length = l.length → g (k + 1) (i : Int) st = g k (wrap64 ((i : Int) + 1)) (st.set i (f (l.getD i z))))
    (hend : ∀ k st, g (k + 1) (l.length : Int) st = some st) :
    Ev (fun k => g k 0 (List.replicate l.length y)) (l.map f) := by
  have key : ∀ d i st, i + d = l.length → st.length = l.length → Ev (fun k => g k (i : Int) st) (st.take i ++ (l.drop i).map f) := by
    intro d
    induction d with
    | zero =>
      intro i st hi hs
      have e : i = l.length := by omega
      subst e
      rw [List.drop_length]
      exact Ev.step (by intro k; rw [hend]) (ev_use (Ev.now _) (by rw [← hs, List.take_length]; simp))
    | succ d ih =>
      intro i st hi hs
      have h : i < l.length := by omega
      rw [drop_getD l i z h]
      refine Ev.step (fun k => hin k i st h hs) ?_
      rw [inc i (by unfold maxLen at hlen; omega)]
      refine ev_use (ih (i + 1) _ (by omega) (by simpa using hs)) ?_
      have h2 : i < st.length := by omega
      rw [List.take_succ_eq_append_getElem (by simpa using h2)]
      simp [List.take_set_of_le]
  have := key l.length 0 (List.replicate l.length y) (by omega) (by simp)
  simpa using this
theorem to_loop2 {α β : Type} (l : List α) (z : α) (y : β) (f : α → β) (g : Nat → Int → List β → Option (List β)) (p : Nat → α → Option β) (hlen : l.length ≤ maxLen)
    (hin : ∀ k (i : Nat) st, i < l.length → st.length = l.length → g (k + 1) (i : Int) st = (p k (l.getD i z)).bind fun b => g k (wrap64 ((i : Int) + 1)) (st.set i b))
    (hend : ∀ k st, g (k + 1) (l.length : Int) st = some st)
    (hp : ∀ x ∈ l, Ev (fun k => p k x) (f x)) :
    Ev (fun k => g k 0 (List.replicate l.length y)) (l.map f) := by
  have key : ∀ d i st, i + d = l.length → st.length = l.length → Ev (fun k => g k (i : Int) st) (st.take i ++ (l.drop i).map f) := by
    intro d
    induction d with
    | zero =>
      intro i st hi hs
      have e : i = l.length := by omega
      subst e
      rw [List.drop_length]
      exact Ev.step (by intro k; rw [hend]) (ev_use (Ev.now _) (by rw [← hs, List.take_length]; simp))
    | succ d ih =>
      intro i st hi hs
      have h : i < l.length := by omega
      rw [drop_getD l i z h]
      refine Ev.step (fun k => hin k i st h hs) ?_
      refine Ev.bind (hp _ (getD_mem l i z h)) ?_
      rw [inc i (by unfold maxLen at hlen; omega)]
      refine ev_use (ih (i + 1) _ (by omega) (by simpa using hs)) ?_
      have h2 : i < st.length := by omega
      rw [List.take_succ_eq_append_getElem (by simpa using h2)]
      simp [List.take_set_of_le]
  have := key l.length 0 (List.replicate l.length y) (by omega) (by simp)
  simpa using this
theorem eq_loop {α : Type} (l : List α) (z : α) (g : Nat → Int → Option Bool) (e : Nat → α → Option Bool) (hlen : l.length ≤ maxLen)
    (hin : ∀ k (i : Nat), i < l.length → g (k + 1) (i : Int) = (e k (l.getD i z)).bind fun t => if t = true then g k (wrap64 ((i : Int) + 1)) else some false)
    (hend : ∀ k, g (k + 1) (l.length : Int) = some true)
    (he : ∀ x ∈ l, Ev (fun k => e k x) true) : Ev (fun k => g k 0) true := by
  have key : ∀ d i, i + d = l.length → Ev (fun k => g k (i : Int)) true := by
    intro d
    induction d with
    | zero =>
      intro i hi
      have e : i = l.length := by omega
      subst e
      exact Ev.step (by intro k; rw [hend]) (Ev.now true)
    | succ d ih =>
      intro i hi
      have h : i < l.length := by omega
      refine Ev.step (fun k => hin k i h) ?_
      refine Ev.bind (he _ (getD_mem l i z h)) ?_
      refine ev_pos rfl ?_
      rw [inc i (by unfold maxLen at hlen; omega)]
      exact ih (i + 1) (by omega)
  exact key l.length 0 (by omega)
theorem sz_cut' {left : Int} {n : Nat} {w : Int} {f : Nat → Option Int} (hl : Room left) (hw : 0 ≤ w)
    (h : (n : Int) ≤ left → Room (left - n) → Ev f (szOut (left - n) w)) : Ev (fun k => if left - (n : Int) < 0 then some (-1) else f k) (szOut left (n + w)) := by
  by_cases h0 : left - (n : Int) < 0
  · rw [szOut_neg (by omega)]; exact ev_pos h0 (Ev.now _)
  · refine ev_neg h0 ?_; rw [← szOut_add (by omega) hw (by omega)]; exact h (by omega) (room_le hl (by omega) (by omega))
theorem room_all : Room 1048576 := by unfold Room; omega
theorem law_sz {w : Int} {g : Nat → Int → Option Int} {f : Nat → Option Bool} (hg : Sz g w) (h : w ≤ 1048576 → Ev f true) : Ev (fun k => (g k 1048576).bind fun t => if t < 0 then some true else f k) true := by
  refine Ev.bind (hg.2 1048576 room_all) ?_
  by_cases h0 : w ≤ 1048576
  · rw [szOut_pos h0]; exact ev_neg (by omega) (h h0)
  · rw [szOut_neg (by omega)]; exact ev_pos (by omega) (Ev.now _)
def w_StringS (l : List ByteArray) : Int := wList (fun s => (s.size : Int)) l
theorem w_StringS_nonneg (l : List ByteArray) : 0 ≤ w_StringS l := wList_nonneg fun x _ => by omega
theorem w_StringS_len (l : List ByteArray) : (l.length : Int) ≤ w_StringS l := wList_len fun x _ => by omega
theorem w_StringS_mem {l : List ByteArray} {x : ByteArray} (hx : x ∈ l) : (x.size : Int) ≤ w_StringS l := wList_mem (w := fun s : ByteArray => (s.size : Int)) (fun x _ => by omega) hx
end Go.Proofs.YteldcmniknocpaaGreatDoor.U

end
section
namespace Go.Proofs.YteldcmniknocpaaGreatDoor.U
open Go Go.RowKit Go.Proofs.YteldcmniknocpaaGreatDoorW.PrintWords Go.Proofs.YteldcmniknocpaaGreatDoor.G
set_option linter.unusedVariables false
def digits0 : ByteArray := ⟨#[48, 49, 50, 51, 52, 53, 54, 55, 56, 57]⟩
theorem digit_at (i : Nat) (h : i < 10) : digits0.extract i (i + 1) = S [UInt8.ofNat (48 + i)] := by
  apply L_inj
  rw [L_extract, L_S]
  have : ∀ j : Fin 10, ((L digits0).drop j.1).take (j.1 + 1 - j.1) = [UInt8.ofNat (48 + j.1)] := by decide
  exact this ⟨i, h⟩
def dig (u : Nat) : B := if u = 0 then [] else Lib.decDigits u
theorem dig_step (u : Nat) (h : u ≠ 0) : dig u = dig (u / 10) ++ [UInt8.ofNat (48 + u % 10)] := by
  unfold dig
  rw [if_neg h]
  by_cases h1 : u < 10
  · rw [if_pos (by omega)]
    unfold Lib.decDigits
    rw [dif_pos h1, Nat.mod_eq_of_lt h1]; rfl
  · rw [if_neg (by omega)]
    conv => lhs; unfold Lib.decDigits
    rw [dif_neg h1]
theorem dec_arith (x4 : Int) (u : Nat) (h4 : x4.natAbs = u) (hlo : -9223372036854775808 ≤ x4) (hhi : x4 ≤ 9223372036854775807) :
    (Int.tdiv x4 10).natAbs = u / 10 ∧ (Int.tmod x4 10).natAbs = u % 10 ∧ -922337203685477580 ≤ Int.tdiv x4 10 ∧ Int.tdiv x4 10 ≤ 922337203685477580 := by
  have hd : (Int.tdiv x4 10).natAbs = u / 10 := by rw [Int.natAbs_tdiv, h4]; rfl
  have hm : (Int.tmod x4 10).natAbs = u % 10 := by rw [Int.natAbs_tmod, h4]; rfl
  refine ⟨hd, hm, ?_, ?_⟩ <;> omega
theorem dec_idx (t : Int) (v : Nat) (hv : v < 10) (hm : t.natAbs = v) (hn : t < 0) : wrap64 (-t) = (v : Int) := by rw [w64 (by omega) (by omega)]; omega
theorem dec_end (x0 : Int) (x3 : ByteArray) (h : x3.size ≤ 40) (k : Nat) : spec_DecText.l0 (k + 1) x0 x3 0 = some (S ((if x0 < 0 then [45] else []) ++ (dig 0 ++ L x3))) := by
  rw [spec_DecText.l0, if_pos rfl]
  by_cases hn : x0 < 0
  · rw [if_pos hn, if_pos hn, if_pos (by omega)]; rfl
  · rw [if_neg hn, if_neg hn]; rfl
theorem dec_go (x0 x4 t q : Int) (x3 : ByteArray) (v : Nat) (hv : v < 10) (hx : ¬ x4 = 0) (hT : Int.tmod x4 10 = t) (hQ : Int.tdiv x4 10 = q) (hq : wrap64 q = q) (hm : t.natAbs = v) (h3 : x3.size ≤ 40) (k : Nat) :
    spec_DecText.l0 (k + 1) x0 x3 x4 = spec_DecText.l0 k x0 (S [UInt8.ofNat (48 + v)] ++ x3) q := by
  have hone : (S [UInt8.ofNat (48 + v)]).size = 1 := by rw [size_S]; rfl
  have e2 : wrap64 ((v : Int) + 1) = ((v + 1 : Nat) : Int) := wa1 _ (by omega)
  have e3 := digit_at v hv
  unfold digits0 at e3
  have b1 : (0 : Int) ≤ (v : Int) := by omega
  have b2 : (v : Int) ≤ ((v + 1 : Nat) : Int) := by omega
  have b3 : ((v + 1 : Nat) : Int) ≤ 10 := by omega
  have b4 : (S [UInt8.ofNat (48 + v)]).size + x3.size ≤ 9223372036854775807 := by rw [hone]; omega
  rw [spec_DecText.l0, if_neg hx, hT, hQ, hq]
  by_cases hn : t < 0
  · rw [if_pos hn, dec_idx t v hv hm hn, e2, if_pos b1, if_pos b2, if_pos b3, Int.toNat_natCast, Int.toNat_natCast, e3, if_pos b4]
  · have e1 : t = (v : Int) := by omega
    rw [if_neg hn, e1, e2, if_pos b1, if_pos b2, if_pos b3, Int.toNat_natCast, Int.toNat_natCast, e3, if_pos b4]
theorem spec_DecText_l (x0 : Int) : ∀ d (u : Nat) (x4 : Int) (x3 : ByteArray), u < 10 ^ d → x4.natAbs = u → -9223372036854775808 ≤ x4 → x4 ≤ 9223372036854775807 → x3.size + d ≤ 40 →
    Ev (fun k => spec_DecText.l0 k x0 x3 x4) (S ((if x0 < 0 then [45] else []) ++ (dig u ++ L x3))) := by
  intro d
  induction d with
  | zero =>
    intro u x4 x3 hu h4 _ _ hs
    have e2 : u = 0 := by simpa using hu
    subst e2
    have e : x4 = 0 := Int.natAbs_eq_zero.1 h4
    subst e
    exact Ev.step (f := fun _ => some _) (dec_end x0 x3 (by omega)) (Ev.now _)
  | succ d ih =>
    intro u x4 x3 hu h4 hlo hhi hs
    by_cases hz : u = 0
    · subst hz
      have e : x4 = 0 := Int.natAbs_eq_zero.1 h4
      subst e
      exact Ev.step (f := fun _ => some _) (dec_end x0 x3 (by omega)) (Ev.now _)
    · have hx : ¬ x4 = 0 := fun e => hz (by rw [← h4, e]; rfl)
      obtain ⟨hd, hm, q1, q2⟩ := dec_arith x4 u h4 hlo hhi
      have h10 : u / 10 < 10 ^ d := by rw [Nat.div_lt_iff_lt_mul (by decide)]; rw [Nat.pow_succ] at hu; exact hu
      have hone : (S [UInt8.ofNat (48 + u % 10)]).size = 1 := by rw [size_S]; rfl
      clear hu h4
      rw [dig_step u hz]
      refine Ev.step (dec_go x0 x4 _ _ x3 (u % 10) (Nat.mod_lt _ (by decide)) hx rfl rfl (w64 (by omega) (by omega)) hm (by omega)) ?_
      refine ev_use (ih (u / 10) _ (S [UInt8.ofNat (48 + u % 10)] ++ x3) h10 hd (by omega) (by omega) (by rw [ByteArray.size_append, hone]; omega)) ?_
      rw [L_append, L_S]; simp
theorem itoa_dig (n : Int) (h : n ≠ 0) : Lib.itoa n = (if n < 0 then [45] else []) ++ dig n.natAbs := by
  unfold Lib.itoa dig
  by_cases hn : n < 0
  · rw [if_pos hn, if_pos hn, if_neg (by omega)]; rfl
  · rw [if_neg hn, if_neg hn, if_neg (by omega)]
    have : n.toNat = n.natAbs := by omega
    rw [this]; rfl
theorem spec_DecText_ev (n : Int) (h0 : -9223372036854775808 ≤ n) (h1 : n ≤ 9223372036854775807) : Ev (fun k => spec_DecText.f k n) (S (Lib.itoa n)) := by
  unfold spec_DecText.f
  by_cases h : n = 0
  · subst h; refine ev_pos rfl (ev_use (Ev.now _) ?_)
    apply L_inj; rw [L_S]; unfold Lib.itoa; rw [if_neg (by omega)]; unfold Lib.decDigits; rw [dif_pos (by decide)]; rfl
  · refine ev_neg h ?_
    rw [itoa_dig n h]
    refine ev_use (spec_DecText_l n 20 n.natAbs n ⟨#[]⟩ (by omega) rfl h0 h1 (by decide)) ?_
    congr 1
    show _ ++ (_ ++ ([] : B)) = _
    rw [List.append_nil]
theorem impl_DecText_eq (n : Int) (h0 : -9223372036854775808 ≤ n) (h1 : n ≤ 9223372036854775807) : impl_DecText.f n = some (S (Lib.itoa n)) := by
  unfold impl_DecText.f strconv_Itoa.f
  rw [if_pos ⟨h0, h1⟩]; rfl
end Go.Proofs.YteldcmniknocpaaGreatDoor.U

end
section
namespace Go.Proofs.YteldcmniknocpaaGreatDoor.U
open Go Go.RowKit Go.Proofs.YteldcmniknocpaaGreatDoorW.PrintWords Go.Proofs.YteldcmniknocpaaGreatDoor.G
theorem spec_l01In_eq (a b c : Int) : spec_l01In.f a b c = some (decide (b ≤ a ∧ a ≤ c)) := by
  unfold spec_l01In.f
  by_cases h : a ≥ b
  · rw [if_pos h]; by_cases h2 : a ≤ c <;> simp [h2] <;> omega
  · rw [if_neg h]; simp; omega
theorem impl_within_eq (a b c : Int) : impl_within.f a b c = some (decide (b ≤ a ∧ a ≤ c)) := by
  unfold impl_within.f
  by_cases h : b ≤ a
  · rw [if_pos h]; by_cases h2 : a ≤ c <;> simp [h2, h]
  · rw [if_neg h]; simp [h]
end Go.Proofs.YteldcmniknocpaaGreatDoor.U

end
section
namespace Go.Proofs.YteldcmniknocpaaGreatDoor.U
open Go Go.RowKit Go.Proofs.YteldcmniknocpaaGreatDoorW.PrintWords Go.Proofs.YteldcmniknocpaaGreatDoor.G
set_option linter.unusedVariables false
set_option linter.unusedSimpArgs false
theorem itoa_nat (u : Nat) : Lib.itoa (u : Int) = Lib.decDigits u := by unfold Lib.itoa; rw [if_neg (by omega)]; simp
theorem rdec_bad {l : B} (h : ∃ c ∈ l, dgt c = false) : rdec l = -1 := by
  unfold rdec
  rw [if_neg]
  rintro ⟨_, e⟩
  obtain ⟨c, hc, hd⟩ := h
  have := dec_dgt (val10 0 l) c (by rw [e]; exact hc)
  rw [hd] at this; cases this
theorem rdec_long {l : B} (h : 9 < l.length) : rdec l = -1 := by
  unfold rdec
  rw [if_neg]
  rintro ⟨e, _⟩; omega
theorem impl_ReadDec_eq (s : ByteArray) (hs : s.size ≤ 1099511627776) : impl_ReadDec.f s = some (rdec (L s)) := by
  unfold impl_ReadDec.f
  rw [if_pos (by omega)]
  show (match Lib.atoiAll (L s) with | .ok n => _ | _ => some (-1)) = _
  by_cases hr : rdec (L s) = -1
  · rw [hr]
    cases ha : Lib.atoiAll (L s) with
    | ok n =>
      simp only []
      rw [impl_within_eq, Option.bind_some]
      by_cases hn : 0 ≤ n ∧ n ≤ 999999999
      · rw [if_pos (decide_eq_true hn), impl_DecText_eq n (by omega) (by omega), Option.bind_some, toList_S, toList_L]
        by_cases e : Lib.itoa n = L s
        · exfalso
          have hu : n = ((n.toNat : Nat) : Int) := by omega
          rw [hu, itoa_nat] at e
          rw [← e, rdec_dec _ (by omega)] at hr
          omega
        · rw [if_neg e]
      · rw [if_neg (by simpa using hn)]
    | _ => rfl
  · obtain ⟨u, hu, hl, hv⟩ := rdec_some hr
    rw [hv, hl, atoi_dec u hu]
    simp only []
    rw [impl_within_eq, Option.bind_some, if_pos (decide_eq_true (by omega)), impl_DecText_eq _ (by omega) (by omega), Option.bind_some, toList_S, toList_L, hl, itoa_nat, if_pos rfl]
theorem step10 (a : Nat) (c : UInt8) (ha : a < 1000000000) (hc : dgt c = true) : wrap64 ((wrap64 ((wrap64 (10 * (a : Int))) + (wrap64 (c.toNat : Int)))) - 48) = ((a * 10 + (c.toNat - 48) : Nat) : Int) := by
  have h := (dgt_is c).1 hc
  rw [w64 (n := 10 * (a : Int)) (by omega) (by omega), w64 (n := (c.toNat : Int)) (by omega) (by omega), w64 (n := 10 * (a : Int) + (c.toNat : Int)) (by omega) (by omega), w64 (by omega) (by omega)]
  omega
theorem spec_ReadDec_ev (s : ByteArray) (hs : s.size ≤ 1099511627776) : Ev (fun k => spec_ReadDec.f k s) (rdec (L s)) := by
  have hsz := size_L s
  have key : ∀ (d i : Nat), i + d = (L s).length → i ≤ 9 → (∀ c ∈ (L s).take i, dgt c = true) → Ev (fun k => spec_ReadDec.l0 k s (val10 0 ((L s).take i) : Int) (i : Int)) (rdec (L s)) := by
    intro d
    induction d with
    | zero =>
      intro i hi h9 hall
      have e : (L s).take i = L s := List.take_of_length_le (by omega)
      rw [e] at hall ⊢
      have hlt : val10 0 (L s) < 1000000000 := by
        have := val10_lt (L s) 0 hall
        have h2 : 10 ^ (L s).length ≤ 10 ^ 9 := Nat.pow_le_pow_right (by decide) (by omega)
        rw [p9] at h2; omega
      have hd := spec_DecText_ev ((val10 0 (L s) : Nat) : Int) (by omega) (by omega)
      rw [itoa_nat] at hd
      refine Ev.step (f := fun k => if s.toList = ([] : List UInt8) then some (-1) else (spec_DecText.f k ((val10 0 (L s) : Nat) : Int)).bind fun t => if t.toList = s.toList then some ((val10 0 (L s) : Nat) : Int) else some (-1)) (fun k => by rw [spec_ReadDec.l0, if_neg (by omega)]) ?_
      rw [toList_L]
      unfold rdec
      by_cases h0 : L s = []
      · refine ev_pos h0 (ev_use (Ev.now _) ?_)
        rw [if_neg]
        rintro ⟨_, e2⟩
        rw [h0] at e2
        exact dec_ne _ e2
      · refine ev_neg h0 (Ev.bind hd ?_)
        rw [toList_S]
        by_cases h1 : Lib.decDigits (val10 0 (L s)) = L s
        · exact ev_use (ev_pos h1 (Ev.now _)) (if_pos ⟨by omega, h1⟩).symm
        · exact ev_use (ev_neg h1 (Ev.now _)) (if_neg (fun h => h1 h.2)).symm
    | succ d ih =>
      intro i hi h9 hall
      have hlt : i < (L s).length := by omega
      have hb : bt s (i : Int) = ((at_ (L s) i).toNat : Int) := bt_nat s i
      have hby := byte_lt (at_ (L s) i)
      by_cases hc : dgt (at_ (L s) i) = true
      · by_cases hl : (L s).length > 9
        · refine Ev.step (f := fun k => some (-1)) (fun k => ?_) (ev_use (Ev.now _) (rdec_long hl).symm)
          rw [spec_ReadDec.l0, if_pos (by omega), if_pos (by omega), hb, spec_l01In_eq, Option.bind_some, w64 (by omega) (by omega), if_pos (decide_eq_true (by have := (dgt_is _).1 hc; omega)), if_pos (by omega)]
        · have htk : (L s).take (i + 1) = (L s).take i ++ [at_ (L s) i] := take_at _ _ hlt
          have hv : val10 0 ((L s).take (i + 1)) = val10 0 ((L s).take i) * 10 + ((at_ (L s) i).toNat - 48) := by rw [htk, val10_append]; rfl
          have hlt9 : val10 0 ((L s).take i) < 1000000000 := by
            have := val10_lt ((L s).take i) 0 hall
            have h2 : 10 ^ ((L s).take i).length ≤ 10 ^ 9 := Nat.pow_le_pow_right (by decide) (by rw [List.length_take]; omega)
            rw [p9] at h2; omega
          refine Ev.step (f := fun k => spec_ReadDec.l0 k s (val10 0 ((L s).take (i + 1)) : Int) ((i + 1 : Nat) : Int)) (fun k => ?_) (ih (i + 1) (by omega) (by omega) ?_)
          · rw [spec_ReadDec.l0, if_pos (by omega), if_pos (by omega), hb, spec_l01In_eq, Option.bind_some, w64 (n := ((at_ (L s) i).toNat : Int)) (by omega) (by omega), if_pos (decide_eq_true (by have := (dgt_is _).1 hc; omega)), if_neg (by omega), hv, wa1 i (by omega)]
            have := step10 (val10 0 ((L s).take i)) (at_ (L s) i) hlt9 hc
            rw [w64 (n := ((at_ (L s) i).toNat : Int)) (by omega) (by omega)] at this
            rw [this]
          · intro c hcm
            rw [htk, List.mem_append, List.mem_singleton] at hcm
            rcases hcm with h | rfl
            · exact hall c h
            · exact hc
      · have hbad : rdec (L s) = -1 := rdec_bad ⟨at_ (L s) i, by rw [at_eq _ _ hlt]; exact List.getElem_mem hlt, by simpa using hc⟩
        refine Ev.step (f := fun k => some (-1)) (fun k => ?_) (ev_use (Ev.now _) hbad.symm)
        rw [spec_ReadDec.l0, if_pos (by omega), if_pos (by omega), hb, spec_l01In_eq, Option.bind_some, w64 (by omega) (by omega), if_neg]
        rw [decide_eq_true_iff]
        intro h; exact hc ((dgt_is _).2 (by omega))
  have := key (L s).length 0 (by omega) (by omega) (by simp)
  exact this
theorem all_loop {α : Type} (l : List α) (z : α) (p : α → Bool) (last : Bool) (g : Nat → Int → Option Bool) (hend : Ev (fun k => g k (l.length : Int)) last)
    (hstep : ∀ (i : Nat) (r : Bool), i < l.length → Ev (fun k => g k ((i + 1 : Nat) : Int)) r → Ev (fun k => g k (i : Int)) (p (l.getD i z) && r)) : Ev (fun k => g k 0) (l.all p && last) := by
  have key : ∀ d i, i + d = l.length → Ev (fun k => g k (i : Int)) ((l.drop i).all p && last) := by
    intro d
    induction d with
    | zero =>
      intro i hi
      have e : i = l.length := by omega
      subst e
      rw [List.drop_length]; exact hend
    | succ d ih =>
      intro i hi
      rw [drop_getD l i z (by omega), List.all_cons, Bool.and_assoc]
      exact hstep i _ (by omega) (ih (i + 1) (by omega))
  have := key l.length 0 (by omega)
  exact this
theorem getD_at (l : B) (i : Nat) : l.getD i 0 = at_ l i := rfl
def isNum (l : B) : Bool := l.all dgt && (l != [])
def idc (c : UInt8) : Bool := decide (97 ≤ c.toNat ∧ c.toNat ≤ 122) || decide (65 ≤ c.toNat ∧ c.toNat ≤ 90) || decide (48 ≤ c.toNat ∧ c.toNat ≤ 57) || c == 45
def preOk (l : B) : Bool := l.all idc && (decide (1 ≤ l.length ∧ l.length ≤ 20) && (!isNum l || decide (0 ≤ rdec l)))
def num9 (n : Int) : Bool := decide (0 ≤ n ∧ n ≤ 999999999)
def verOk (a b c : Int) (l : List ByteArray) : Bool := (num9 a && num9 b && num9 c) && (l.all (fun p => preOk (L p)) && decide (l.length ≤ 5))
theorem spec_dgt (c : UInt8) : spec_l01In.f (wrap64 (c.toNat : Int)) 48 57 = some (dgt c) := by
  have := byte_lt c
  rw [spec_l01In_eq, w64 (by omega) (by omega)]
  congr 1
  unfold dgt
  by_cases h : 48 ≤ c.toNat ∧ c.toNat ≤ 57
  · rw [decide_eq_true h, decide_eq_true (by omega)]
  · rw [decide_eq_false h, decide_eq_false (by omega)]
theorem spec_l02Digits_ev (s : ByteArray) (hs : s.size ≤ 1099511627776) : Ev (fun k => spec_l02Digits.f k s) (isNum (L s)) := by
  have hsz := size_L s
  refine all_loop (L s) 0 dgt ((L s) != []) (fun k i => spec_l02Digits.l0 k s i) ?_ ?_
  · exact Ev.step (f := fun k => some (s.toList != ([] : List UInt8))) (fun k => by show spec_l02Digits.l0 (k + 1) s _ = _; rw [spec_l02Digits.l0, if_neg (by omega)]) (by rw [toList_L]; exact Ev.now _)
  · intro i r hi hr
    rw [getD_at]
    have hb : bt s (i : Int) = ((at_ (L s) i).toNat : Int) := bt_nat s i
    by_cases h : dgt (at_ (L s) i) = true
    · rw [h, Bool.true_and]
      refine Ev.step (fun k => ?_) hr
      show spec_l02Digits.l0 (k + 1) s _ = _
      rw [spec_l02Digits.l0, if_pos (by omega), if_pos (by omega), hb, spec_dgt, Option.bind_some, if_pos h, wa1 i (by omega)]
    · refine Ev.step (f := fun k => some false) (fun k => ?_) (by simp only [Bool.not_eq_true] at h; rw [h]; exact Ev.now _)
      show spec_l02Digits.l0 (k + 1) s _ = _
      rw [spec_l02Digits.l0, if_pos (by omega), if_pos (by omega), hb, spec_dgt, Option.bind_some, if_neg h]
theorem id_spec (c : UInt8) : ∃ a b, spec_l01Letter.f (c.toNat : Int) = some a ∧ spec_l01Great.f (c.toNat : Int) = some b ∧ idc c = (a || b || decide ((c.toNat : Int) = 45)) := by
  have ha : ∀ c : UInt8, spec_l01Letter.f (c.toNat : Int) = some (decide (97 ≤ c.toNat ∧ c.toNat ≤ 122) || decide (48 ≤ c.toNat ∧ c.toNat ≤ 57)) := by refine all_bytes ?_; decide +kernel
  have hb : ∀ c : UInt8, spec_l01Great.f (c.toNat : Int) = some (decide (65 ≤ c.toNat ∧ c.toNat ≤ 90)) := by refine all_bytes ?_; decide +kernel
  refine ⟨_, _, ha c, hb c, ?_⟩
  revert c; refine all_bytes ?_; decide +kernel
theorem spec_id {α : Type} (c : UInt8) (x : Option α) (y : Option α) : ((spec_l01Letter.f (c.toNat : Int)).bind fun t289 => (if t289 = true then x else ((spec_l01Great.f (c.toNat : Int)).bind fun t290 => (if t290 = true then x else (if (c.toNat : Int) = 45 then x else y))))) = if idc c = true then x else y := by
  obtain ⟨a, b, ha, hb, hc⟩ := id_spec c
  rw [ha, hb, hc, Option.bind_some, Option.bind_some]
  cases a <;> cases b <;> simp
theorem spec_l02Pre_ev (s : ByteArray) (hs : s.size ≤ 1099511627776) : Ev (fun k => spec_l02Pre.f k s) (preOk (L s)) := by
  have hsz := size_L s
  have hr := rdec_range (L s)
  refine all_loop (L s) 0 idc _ (fun k i => spec_l02Pre.l0 k s i) ?_ ?_
  · refine Ev.step (f := fun k => (spec_l01In.f (s.size : Int) 1 20).bind fun t286 => (if t286 = true then ((spec_l02Digits.f k s).bind fun t287 => (if t287 = true then ((spec_ReadDec.f k s).bind fun t288 => (some (decide (t288 ≥ 0)))) else (some true))) else (some false))) (fun k => by show spec_l02Pre.l0 (k + 1) s _ = _; rw [spec_l02Pre.l0, if_neg (by omega)]) ?_
    refine ev_const (spec_l01In_eq _ _ _) ?_
    by_cases h1 : 1 ≤ (L s).length ∧ (L s).length ≤ 20
    · rw [decide_eq_true h1, Bool.true_and]
      refine ev_pos (decide_eq_true (by omega)) (Ev.bind (spec_l02Digits_ev s hs) ?_)
      by_cases h2 : isNum (L s) = true
      · rw [h2, Bool.not_true, Bool.false_or]
        exact ev_pos rfl (Ev.bind (spec_ReadDec_ev s hs) (Ev.now _))
      · refine ev_use (ev_neg h2 (Ev.now _)) ?_
        simp only [Bool.not_eq_true] at h2; rw [h2]; rfl
    · rw [decide_eq_false h1]
      exact ev_neg (by simp; omega) (Ev.now _)
  · intro i r hi hr
    rw [getD_at]
    have hb : bt s (i : Int) = ((at_ (L s) i).toNat : Int) := bt_nat s i
    by_cases h : idc (at_ (L s) i) = true
    · rw [h, Bool.true_and]
      refine Ev.step (fun k => ?_) hr
      show spec_l02Pre.l0 (k + 1) s _ = _
      rw [spec_l02Pre.l0, if_pos (by omega), if_pos (by omega), hb, spec_id, if_pos h, wa1 i (by omega)]
    · refine Ev.step (f := fun k => some false) (fun k => ?_) (by simp only [Bool.not_eq_true] at h; rw [h]; exact Ev.now _)
      show spec_l02Pre.l0 (k + 1) s _ = _
      rw [spec_l02Pre.l0, if_pos (by omega), if_pos (by omega), hb, spec_id, if_neg h]
theorem spec_num9 (n : Int) : spec_l01In.f n 0 999999999 = some (num9 n) := spec_l01In_eq _ _ _
theorem impl_num9 (n : Int) : impl_within.f n 0 999999999 = some (num9 n) := impl_within_eq _ _ _
theorem len5 (n : Nat) : decide ((n : Int) ≤ 5) = decide (n ≤ 5) := by
  by_cases h : n ≤ 5
  · rw [decide_eq_true h, decide_eq_true (by omega)]
  · rw [decide_eq_false h, decide_eq_false (by omega)]
theorem spec_VersionOk_ev (a b c : Int) (l : List ByteArray) (hl : l.length ≤ 1125899906842624) (hs : ∀ x ∈ l, x.size ≤ 1099511627776) : Ev (fun k => spec_VersionOk.f k a b c l) (verOk a b c l) := by
  have hgo : Ev (fun k => spec_VersionOk.f k a b c l) (l.all (fun p => preOk (L p)) && (num9 a && (num9 b && (num9 c && decide (l.length ≤ 5))))) := by
    refine all_loop l ByteArray.empty (fun p => preOk (L p)) _ (fun k i => spec_VersionOk.l0 k i a b c l) ?_ ?_
    · refine Ev.step (f := fun k => some (num9 a && (num9 b && (num9 c && decide (l.length ≤ 5))))) (fun k => ?_) (Ev.now _)
      show spec_VersionOk.l0 (k + 1) _ a b c l = _
      rw [spec_VersionOk.l0, if_neg (by omega), spec_num9, spec_num9, spec_num9, len5]
      cases num9 a <;> cases num9 b <;> cases num9 c <;> rfl
    · intro i r hi hr
      have hx := spec_l02Pre_ev (l.getD i ByteArray.empty) (hs _ (getD_mem l i _ hi))
      refine Ev.step (f := fun k => (spec_l02Pre.f k (l.getD i ByteArray.empty)).bind fun t => if t = true then spec_VersionOk.l0 k ((i + 1 : Nat) : Int) a b c l else some false) (fun k => ?_) (Ev.bind hx ?_)
      · show spec_VersionOk.l0 (k + 1) _ a b c l = _
        rw [spec_VersionOk.l0, if_pos (by omega), if_pos (by omega), wa1 i (by omega)]; rfl
      · by_cases h : preOk (L (l.getD i ByteArray.empty)) = true
        · rw [h, Bool.true_and]; exact ev_pos rfl hr
        · simp only [Bool.not_eq_true] at h; rw [h]; exact ev_neg (by simp) (Ev.now _)
  refine ev_use hgo ?_
  unfold verOk
  cases num9 a <;> cases num9 b <;> cases num9 c <;> simp
theorem id_impl (c : UInt8) : impl_VersionOk_1.f (c.toNat : Int) = some (idc c) := by
  revert c; refine all_bytes ?_; decide +kernel
theorem impl_dgt (c : UInt8) : impl_isDigit.f (c.toNat : Int) = some (dgt c) := by
  revert c; refine all_bytes ?_; decide +kernel
theorem impl_all_id (s : ByteArray) (hs : s.size ≤ 1099511627776) : Ev (fun k => impl_all__impl_VersionOk_1.f k s) ((L s).all idc) := by
  have hsz := size_L s
  rw [← Bool.and_true ((L s).all idc)]
  refine all_loop (L s) 0 idc true (fun k i => impl_all__impl_VersionOk_1.l0 k s (s.size : Int) i) ?_ ?_
  · exact Ev.step (f := fun k => some true) (fun k => by show impl_all__impl_VersionOk_1.l0 (k + 1) s _ _ = _; rw [impl_all__impl_VersionOk_1.l0, if_neg (by omega)]) (Ev.now _)
  · intro i r hi hr
    rw [getD_at]
    have hb : bt s (i : Int) = ((at_ (L s) i).toNat : Int) := bt_nat s i
    by_cases h : idc (at_ (L s) i) = true
    · rw [h, Bool.true_and]
      refine Ev.step (fun k => ?_) hr
      show impl_all__impl_VersionOk_1.l0 (k + 1) s _ _ = _
      rw [impl_all__impl_VersionOk_1.l0, if_pos (by omega), if_pos (by omega), if_pos (by omega), hb, id_impl, Option.bind_some, if_pos h, wa1 i (by omega)]
    · refine Ev.step (f := fun k => some false) (fun k => ?_) (by simp only [Bool.not_eq_true] at h; rw [h]; exact Ev.now _)
      show impl_all__impl_VersionOk_1.l0 (k + 1) s _ _ = _
      rw [impl_all__impl_VersionOk_1.l0, if_pos (by omega), if_pos (by omega), if_pos (by omega), hb, id_impl, Option.bind_some, if_neg h]
theorem impl_all_dgt (s : ByteArray) (hs : s.size ≤ 1099511627776) : Ev (fun k => impl_all__impl_isDigit.f k s) ((L s).all dgt) := by
  have hsz := size_L s
  rw [← Bool.and_true ((L s).all dgt)]
  refine all_loop (L s) 0 dgt true (fun k i => impl_all__impl_isDigit.l0 k s (s.size : Int) i) ?_ ?_
  · exact Ev.step (f := fun k => some true) (fun k => by show impl_all__impl_isDigit.l0 (k + 1) s _ _ = _; rw [impl_all__impl_isDigit.l0, if_neg (by omega)]) (Ev.now _)
  · intro i r hi hr
    rw [getD_at]
    have hb : bt s (i : Int) = ((at_ (L s) i).toNat : Int) := bt_nat s i
    by_cases h : dgt (at_ (L s) i) = true
    · rw [h, Bool.true_and]
      refine Ev.step (fun k => ?_) hr
      show impl_all__impl_isDigit.l0 (k + 1) s _ _ = _
      rw [impl_all__impl_isDigit.l0, if_pos (by omega), if_pos (by omega), if_pos (by omega), hb, impl_dgt, Option.bind_some, if_pos h, wa1 i (by omega)]
    · refine Ev.step (f := fun k => some false) (fun k => ?_) (by simp only [Bool.not_eq_true] at h; rw [h]; exact Ev.now _)
      show impl_all__impl_isDigit.l0 (k + 1) s _ _ = _
      rw [impl_all__impl_isDigit.l0, if_pos (by omega), if_pos (by omega), if_pos (by omega), hb, impl_dgt, Option.bind_some, if_neg h]
theorem impl_isNumber_ev (s : ByteArray) (hs : s.size ≤ 1099511627776) : Ev (fun k => impl_isNumber.f k s) (isNum (L s)) := by
  unfold impl_isNumber.f isNum
  rw [toList_L]
  by_cases h : L s = []
  · refine ev_use (ev_pos h (Ev.now _)) ?_
    rw [h]; rfl
  · refine ev_use (ev_neg h (Ev.bind (impl_all_dgt s hs) (Ev.now _))) ?_
    have : (L s != []) = true := bne_iff_ne.2 h
    rw [this, Bool.and_true]
theorem impl_VersionOk_l1_ev (a b c : Int) (l : List ByteArray) (hl : l.length ≤ 1125899906842624) (hs : ∀ x ∈ l, x.size ≤ 1099511627776) : Ev (fun k => impl_VersionOk.l1 k l (l.length : Int) 0 a b c l) (l.all (fun p => preOk (L p)) && decide (l.length ≤ 5)) := by
  refine all_loop l ByteArray.empty (fun p => preOk (L p)) _ (fun k i => impl_VersionOk.l1 k l (l.length : Int) i a b c l) ?_ ?_
  · refine Ev.step (f := fun k => some (decide (l.length ≤ 5))) (fun k => ?_) (Ev.now _)
    show impl_VersionOk.l1 (k + 1) l _ _ a b c l = _
    rw [impl_VersionOk.l1, if_neg (by omega), len5]
  · intro i r hi hr
    have hm := hs _ (getD_mem l i ByteArray.empty hi)
    have ee : rdOf ByteArray.empty l (i : Int) = l.getD i ByteArray.empty := rfl
    refine Ev.step (f := fun k => (impl_within.f ((l.getD i ByteArray.empty).size : Int) 1 20).bind fun t320 => (if t320 = true then ((impl_all__impl_VersionOk_1.f k (l.getD i ByteArray.empty)).bind fun t321 => (if t321 = true then ((impl_isNumber.f k (l.getD i ByteArray.empty)).bind fun t322 => (if t322 = true then ((impl_ReadDec.f (l.getD i ByteArray.empty)).bind fun t323 => (if t323 < 0 then (some false) else (impl_VersionOk.l1 k l (l.length : Int) ((i + 1 : Nat) : Int) a b c l))) else (impl_VersionOk.l1 k l (l.length : Int) ((i + 1 : Nat) : Int) a b c l))) else (some false))) else (some false))) (fun k => ?_) ?_
    · show impl_VersionOk.l1 (k + 1) l _ _ a b c l = _
      rw [impl_VersionOk.l1, if_pos (by omega), if_pos (by omega), if_pos (by omega), wa1 i (by omega), ee]
    · generalize l.getD i ByteArray.empty = s at hm ⊢
      have hsz := size_L s
      refine ev_const (impl_within_eq _ _ _) ?_
      unfold preOk
      by_cases h1 : 1 ≤ (L s).length ∧ (L s).length ≤ 20
      · rw [decide_eq_true h1, Bool.true_and]
        refine ev_pos (decide_eq_true (by omega)) (Ev.bind (impl_all_id s hm) ?_)
        by_cases h2 : (L s).all idc = true
        · rw [h2, Bool.true_and]
          refine ev_pos rfl (Ev.bind (impl_isNumber_ev s hm) ?_)
          by_cases h3 : isNum (L s) = true
          · rw [h3, Bool.not_true, Bool.false_or]
            refine ev_pos rfl (ev_const (impl_ReadDec_eq s hm) ?_)
            by_cases h4 : 0 ≤ rdec (L s)
            · rw [decide_eq_true h4, Bool.true_and]; exact ev_neg (by omega) hr
            · rw [decide_eq_false h4, Bool.false_and]; exact ev_pos (by omega) (Ev.now _)
          · refine ev_neg h3 ?_
            simp only [Bool.not_eq_true] at h3; rw [h3, Bool.not_false, Bool.true_or, Bool.true_and]; exact hr
        · refine ev_neg h2 ?_
          simp only [Bool.not_eq_true] at h2; rw [h2]; exact Ev.now _
      · rw [decide_eq_false h1, Bool.false_and, Bool.and_false]
        exact ev_neg (by simp; omega) (Ev.now _)
theorem impl_VersionOk_ev (a b c : Int) (l : List ByteArray) (hl : l.length ≤ 1125899906842624) (hs : ∀ x ∈ l, x.size ≤ 1099511627776) : Ev (fun k => impl_VersionOk.f k a b c l) (verOk a b c l) := by
  have hgo : Ev (fun k => impl_VersionOk.l0 k [a, b, c] ((([a, b, c] : List Int).length : Nat) : Int) 0 a b c l) (([a, b, c] : List Int).all num9 && (l.all (fun p => preOk (L p)) && decide (l.length ≤ 5))) := by
    refine all_loop [a, b, c] 0 num9 _ (fun k i => impl_VersionOk.l0 k [a, b, c] ((([a, b, c] : List Int).length : Nat) : Int) i a b c l) ?_ ?_
    · refine Ev.step (fun k => ?_) (impl_VersionOk_l1_ev a b c l hl hs)
      show impl_VersionOk.l0 (k + 1) _ _ _ a b c l = _
      rw [impl_VersionOk.l0, if_neg (by omega)]
    · intro i r hi hr
      have ee : rd [a, b, c] (i : Int) = ([a, b, c] : List Int).getD i 0 := rfl
      have hi3 : i < 3 := hi
      refine Ev.step (f := fun k => if num9 (([a, b, c] : List Int).getD i 0) = true then impl_VersionOk.l0 k [a, b, c] ((([a, b, c] : List Int).length : Nat) : Int) ((i + 1 : Nat) : Int) a b c l else some false) (fun k => ?_) ?_
      · show impl_VersionOk.l0 (k + 1) _ _ _ a b c l = _
        rw [impl_VersionOk.l0, if_pos (by omega), if_pos (by omega), if_pos (by omega), wa1 i (by omega), ee, impl_num9, Option.bind_some]
      · by_cases h : num9 (([a, b, c] : List Int).getD i 0) = true
        · rw [h, Bool.true_and]; exact ev_pos rfl hr
        · simp only [Bool.not_eq_true] at h; rw [h]; exact ev_neg (by simp) (Ev.now _)
  refine ev_use (ev_some hgo) ?_
  unfold verOk
  simp [Bool.and_assoc]
end Go.Proofs.YteldcmniknocpaaGreatDoor.U

end
section
namespace Go.Proofs.YteldcmniknocpaaGreatDoor.U
open Go Go.RowKit Go.Proofs.YteldcmniknocpaaGreatDoorW.PrintWords Go.Proofs.YteldcmniknocpaaGreatDoor.G
set_option linter.unusedVariables false
def cutP (c : UInt8) : B → B → List B
  | p, [] => [p]
  | p, x :: l => if x = c then p :: cutP c [] l else cutP c (p ++ [x]) l
theorem cutP_len (c : UInt8) : ∀ l p, 1 ≤ (cutP c p l).length ∧ (cutP c p l).length ≤ l.length + 1 := by
  intro l
  induction l with
  | nil => intro p; simp [cutP]
  | cons x l ih =>
    intro p
    unfold cutP
    by_cases h : x = c
    · rw [if_pos h]; have := ih []; simp only [List.length_cons]; omega
    · rw [if_neg h]; have := ih (p ++ [x]); simp only [List.length_cons]; omega
theorem spec_l01Cut_l (s : ByteArray) (c : UInt8) (hs : s.size ≤ 1048576) : ∀ d j (a : Nat) (x5 : List ByteArray), j + d = (L s).length → a ≤ j → x5.length ≤ j →
    Ev (fun k => spec_l01Cut.l0 k s (c.toNat : Int) x5 (a : Int) (j : Int)) (x5 ++ (cutP c (((L s).take j).drop a) ((L s).drop j)).map S) := by
  rw [size_L] at hs
  intro d
  induction d with
  | zero =>
    intro j a x5 hj ha h5
    have e : j = (L s).length := by omega
    subst e
    rw [List.drop_length, List.take_length]
    refine Ev.step (f := fun _ => some (x5 ++ (cutP c ((L s).drop a) []).map S)) (fun k => ?_) (Ev.now _)
    have e1 : s.extract (((a : Nat) : Int)).toNat s.size = S ((L s).drop a) := by
      apply L_inj; rw [L_extract, L_S, Int.toNat_natCast, size_L, List.take_of_length_le (by rw [List.length_drop]; omega)]
    rw [spec_l01Cut.l0, if_neg (by rw [size_L]; omega), if_pos (by omega), if_pos (by rw [size_L]; omega), if_pos (by omega), e1]
    rfl
  | succ d ih =>
    intro j a x5 hj ha h5
    have h : j < (L s).length := by omega
    rw [drop_at (L s) j h]
    by_cases hc : at_ (L s) j = c
    · have e1 : s.extract (((a : Nat) : Int)).toNat ((j : Int)).toNat = S (((L s).take j).drop a) := by
        apply L_inj; rw [L_extract, L_S, Int.toNat_natCast, Int.toNat_natCast, List.drop_take]
      refine Ev.step (f := fun k => spec_l01Cut.l0 k s (c.toNat : Int) (x5 ++ [S (((L s).take j).drop a)]) ((j + 1 : Nat) : Int) ((j + 1 : Nat) : Int)) (fun k => ?_) ?_
      · rw [spec_l01Cut.l0, if_pos (by rw [size_L]; omega), if_pos (by omega), bt_nat, if_pos (by rw [hc]), if_pos (by omega), if_pos (by omega), if_pos (by rw [size_L]; omega), if_pos (by omega), e1, wa1 j (by omega)]
      · refine ev_use (ih (j + 1) (j + 1) _ (by omega) (Nat.le_refl _) (by rw [List.length_append]; simp; omega)) ?_
        have e2 : ((L s).take (j + 1)).drop (j + 1) = [] := List.drop_eq_nil_of_le (by rw [List.length_take]; omega)
        rw [e2]
        conv => rhs; unfold cutP
        rw [if_pos hc, List.map_cons, List.append_assoc]; rfl
    · have hb : ¬ ((at_ (L s) j).toNat : Int) = (c.toNat : Int) := fun e => hc (byte_inj e)
      refine Ev.step (f := fun k => spec_l01Cut.l0 k s (c.toNat : Int) x5 (a : Int) ((j + 1 : Nat) : Int)) (fun k => ?_) ?_
      · rw [spec_l01Cut.l0, if_pos (by rw [size_L]; omega), if_pos (by omega), bt_nat, if_neg hb, wa1 j (by omega)]
      · refine ev_use (ih (j + 1) a x5 (by omega) (by omega) (by omega)) ?_
        have e2 : ((L s).take (j + 1)).drop a = ((L s).take j).drop a ++ [at_ (L s) j] := by
          rw [take_at (L s) j h, List.drop_append_of_le_length (by rw [List.length_take]; omega)]
        rw [e2]
        conv => rhs; unfold cutP
        rw [if_neg hc]
theorem spec_l01Cut_ev (s : ByteArray) (c : UInt8) (hs : s.size ≤ 1048576) : Ev (fun k => spec_l01Cut.f k s (c.toNat : Int)) ((cutP c [] (L s)).map S) := by
  have := spec_l01Cut_l s c hs (L s).length 0 0 [] (by omega) (by omega) (by simp)
  unfold spec_l01Cut.f
  simpa using this
theorem index_free (c : UInt8) : ∀ (p l : B), c ∉ p → Lib.indexByte (p ++ c :: l) c = (p.length : Int) := by
  intro p
  induction p with
  | nil => intro l _; simp [Lib.indexByte]
  | cons x p ih =>
    intro l h
    simp only [List.mem_cons, not_or] at h
    have hx : ¬ x = c := fun e => h.1 e.symm
    have := ih l h.2
    rw [List.cons_append]
    unfold Lib.indexByte
    rw [if_neg (by simpa using hx), this, if_neg (by simp), List.length_cons]; omega
theorem splitK_cut (c : UInt8) : ∀ (l p : B), c ∉ p → Lib.splitK [c] 0 ((p ++ l).count c) (p ++ l) = cutP c p l := by
  intro l
  induction l with
  | nil =>
    intro p hp
    rw [List.append_nil, List.count_eq_zero_of_not_mem hp]; rfl
  | cons x l ih =>
    intro p hp
    unfold cutP
    by_cases h : x = c
    · subst h
      rw [if_pos rfl]
      have e : (p ++ x :: l).count x = l.count x + 1 := by rw [List.count_append, List.count_eq_zero_of_not_mem hp, List.count_cons_self]; omega
      have ei : Lib.index (p ++ x :: l) [x] = (p.length : Int) := by rw [Lib.index_one, index_free x p l hp]
      rw [e, Lib.splitK, if_neg (by rw [ei]; simp), ei, Int.toNat_natCast, List.take_left']
      · have ed : (p ++ x :: l).drop (p.length + [x].length) = l := by rw [List.drop_append]; simp
        rw [ed]; congr 1
        exact ih [] (by simp)
      · simp
    · rw [if_neg h]
      have := ih (p ++ [x]) (by simp only [List.mem_append, List.mem_singleton, not_or]; exact ⟨hp, fun e => h e.symm⟩)
      rw [List.append_assoc] at this; exact this
theorem split_one (s : ByteArray) (c : UInt8) (hs : s.size ≤ 1048576) : strings_Split.f s (S [c]) = some ((cutP c [] (L s)).map S) := by
  unfold strings_Split.f
  rw [if_pos ⟨by omega, by simp⟩]
  congr 1
  have e1 : (S [c]).data.toList = [c] := L_S [c]
  have e2 : Lib.countB s (S [c]) = (L s).count c := by
    show Lib.count s.data.toList (S [c]).data.toList = _
    rw [e1, Lib.count_one]; rfl
  have e3 := Lib.splitB_data (S [c]) 0 (Lib.countB s (S [c])) s
  rw [e1, e2] at e3
  have e4 := splitK_cut c (L s) [] (by simp)
  rw [List.nil_append] at e4
  rw [e2]
  have e5 : (Lib.splitB (S [c]) 0 ((L s).count c) s).map L = cutP c [] (L s) := e3.trans e4
  rw [← e5, List.map_map]
  have : (S ∘ L) = (id : ByteArray → ByteArray) := by funext x; exact S_L x
  rw [this, List.map_id]
end Go.Proofs.YteldcmniknocpaaGreatDoor.U

end
section
namespace Go.Proofs.YteldcmniknocpaaGreatDoor.U
open Go Go.RowKit Go.Proofs.YteldcmniknocpaaGreatDoorW.PrintWords Go.Proofs.YteldcmniknocpaaGreatDoor.G
set_option linter.unusedVariables false
set_option linter.unusedSimpArgs false
abbrev nm12 : B := [110, 111, 100, 101, 95, 109, 111, 100, 117, 108, 101, 115]
def nc (c : UInt8) : Bool := decide (97 ≤ c.toNat ∧ c.toNat ≤ 122) || dgt c || c == 46 || c == 95 || c == 45
def noAt (l : B) : B := if l.head? = some 64 then l.drop 1 else l
def partOk (p : B) : Bool := !(p == nm12) && (p.all nc && (p != []))
def headOk (p : B) : Bool := !(p == nm12) && ((noAt p).all nc && (noAt p != []))
def partsOk : List B → Bool
  | [] => true
  | p :: r => headOk p && r.all partOk
def nameOk (l : B) : Bool := partsOk (cutP 47 [] l) && decide (l.length ≤ 60)
theorem cutP_pre (c : UInt8) : ∀ (l p q : B), cutP c (q ++ p) l = match cutP c p l with | [] => [] | x :: r => (q ++ x) :: r
  | [], p, q => rfl
  | y :: l, p, q => by
    unfold cutP
    by_cases h : y = c
    · rw [if_pos h, if_pos h]
    · rw [if_neg h, if_neg h, List.append_assoc, cutP_pre c l (p ++ [y]) q]
theorem impl_NameOk_1_eq (c : UInt8) : impl_NameOk_1.f (c.toNat : Int) = some (nc c) := by
  revert c; refine all_bytes ?_; decide +kernel
theorem spec_nc {α : Type} (c : UInt8) (x y : α) : ((spec_l01Letter.f (c.toNat : Int)).bind fun t484 => (if t484 = true then some x else (if (c.toNat : Int) = 46 then some x else (if (c.toNat : Int) = 95 then some x else (if (c.toNat : Int) = 45 then some x else some y))))) = some (if nc c = true then x else y) := by
  have ha : ∀ c : UInt8, spec_l01Letter.f (c.toNat : Int) = some (decide (97 ≤ c.toNat ∧ c.toNat ≤ 122) || decide (48 ≤ c.toNat ∧ c.toNat ≤ 57)) := by refine all_bytes ?_; decide +kernel
  have hb : ∀ c : UInt8, nc c = (decide (97 ≤ c.toNat ∧ c.toNat ≤ 122) || decide (48 ≤ c.toNat ∧ c.toNat ≤ 57) || decide ((c.toNat : Int) = 46) || decide ((c.toNat : Int) = 95) || decide ((c.toNat : Int) = 45)) := by refine all_bytes ?_; decide +kernel
  rw [ha, hb, Option.bind_some]
  cases decide (97 ≤ c.toNat ∧ c.toNat ≤ 122) || decide (48 ≤ c.toNat ∧ c.toNat ≤ 57) with
  | true => simp
  | false =>
    by_cases h1 : (c.toNat : Int) = 46
    · simp [h1]
    · by_cases h2 : (c.toNat : Int) = 95
      · simp [h1, h2]
      · by_cases h3 : (c.toNat : Int) = 45
        · simp [h1, h2, h3]
        · simp [h1, h2, h3]
theorem spec_nc2 {f g : Nat → Option Bool} (c : UInt8) (k : Nat) : ((spec_l01Letter.f (c.toNat : Int)).bind fun t484 => (if t484 = true then f k else (if (c.toNat : Int) = 46 then f k else (if (c.toNat : Int) = 95 then f k else (if (c.toNat : Int) = 45 then f k else some false))))) = if nc c = true then f k else some false := by
  have h := spec_nc c (f k) (some false)
  have e : ∀ (t : Bool), (if t = true then some (f k) else (if (c.toNat : Int) = 46 then some (f k) else (if (c.toNat : Int) = 95 then some (f k) else (if (c.toNat : Int) = 45 then some (f k) else some (some false))))) = some (if t = true then f k else (if (c.toNat : Int) = 46 then f k else (if (c.toNat : Int) = 95 then f k else (if (c.toNat : Int) = 45 then f k else some false)))) := by
    intro t
    repeat' split
    all_goals rfl
  cases hl : spec_l01Letter.f (c.toNat : Int) with
  | none => rw [hl] at h; cases h
  | some t =>
    rw [hl, Option.bind_some, e] at h
    rw [Option.bind_some, Option.some.inj h]
theorem impl_all_nc (s : ByteArray) (hs : s.size ≤ 1099511627776) : Ev (fun k => impl_all__impl_NameOk_1.f k s) ((L s).all nc) := by
  have hsz := size_L s
  rw [← Bool.and_true ((L s).all nc)]
  refine all_loop (L s) 0 nc true (fun k i => impl_all__impl_NameOk_1.l0 k s (s.size : Int) i) ?_ ?_
  · exact Ev.step (f := fun k => some true) (fun k => by show impl_all__impl_NameOk_1.l0 (k + 1) s _ _ = _; rw [impl_all__impl_NameOk_1.l0, if_neg (by omega)]) (Ev.now _)
  · intro i r hi hr
    rw [getD_at]
    have hb : bt s (i : Int) = ((at_ (L s) i).toNat : Int) := bt_nat s i
    by_cases h : nc (at_ (L s) i) = true
    · rw [h, Bool.true_and]
      refine Ev.step (fun k => ?_) hr
      show impl_all__impl_NameOk_1.l0 (k + 1) s _ _ = _
      rw [impl_all__impl_NameOk_1.l0, if_pos (by omega), if_pos (by omega), if_pos (by omega), hb, impl_NameOk_1_eq, Option.bind_some, if_pos h, wa1 i (by omega)]
    · refine Ev.step (f := fun k => some false) (fun k => ?_) (by simp only [Bool.not_eq_true] at h; rw [h]; exact Ev.now _)
      show impl_all__impl_NameOk_1.l0 (k + 1) s _ _ = _
      rw [impl_all__impl_NameOk_1.l0, if_pos (by omega), if_pos (by omega), if_pos (by omega), hb, impl_NameOk_1_eq, Option.bind_some, if_neg h]
theorem spec_name_l1 (s : ByteArray) (q : List ByteArray) (i : Nat) (hi : i < q.length) (hq : q.length ≤ 1048577) (p : ByteArray) (hp : p.size ≤ 1048577) {r : Bool} (hr : Ev (fun k => spec_NameOk.l0 k s q ((i + 1 : Nat) : Int)) r) :
    Ev (fun k => spec_NameOk.l1 k s q (i : Int) p 0) ((L p).all nc && ((L p != []) && r)) := by
  have hsz := size_L p
  refine all_loop (L p) 0 nc _ (fun k j => spec_NameOk.l1 k s q (i : Int) p j) ?_ ?_
  · refine Ev.step (f := fun k => if p.toList = ([] : List UInt8) then some false else spec_NameOk.l0 k s q ((i + 1 : Nat) : Int)) (fun k => ?_) ?_
    · show spec_NameOk.l1 (k + 1) s q _ p _ = _
      rw [spec_NameOk.l1, if_neg (by omega), wa1 i (by omega)]
    · rw [toList_L]
      by_cases h : L p = []
      · have : (L p != ([] : B)) = false := by rw [h]; rfl
        rw [this, Bool.false_and]; exact ev_pos h (Ev.now _)
      · rw [bne_iff_ne.2 h, Bool.true_and]; exact ev_neg h hr
  · intro j r hj hr
    rw [getD_at]
    have hb : bt p (j : Int) = ((at_ (L p) j).toNat : Int) := bt_nat p j
    have e := fun k => spec_nc2 (f := fun k => spec_NameOk.l1 k s q (i : Int) p ((j + 1 : Nat) : Int)) (g := fun _ => none) (at_ (L p) j) k
    refine Ev.step (f := fun k => if nc (at_ (L p) j) = true then spec_NameOk.l1 k s q (i : Int) p ((j + 1 : Nat) : Int) else some false) (fun k => ?_) ?_
    · show spec_NameOk.l1 (k + 1) s q _ p _ = _
      rw [spec_NameOk.l1, if_pos (by omega), if_pos (by omega), hb, wa1 j (by omega)]
      exact e k
    · by_cases h : nc (at_ (L p) j) = true
      · rw [h, Bool.true_and]; exact ev_pos rfl hr
      · simp only [Bool.not_eq_true] at h; rw [h]; exact ev_neg (by simp) (Ev.now _)
theorem rd_S (q : List B) (i : Nat) : rdOf ByteArray.empty (q.map S) (i : Int) = S (q.getD i []) := by
  show (q.map S).getD i ByteArray.empty = _
  rw [List.getD_eq_getElem?_getD, List.getD_eq_getElem?_getD, List.getElem?_map]
  cases q[i]? <;> rfl
theorem spec_name_l0 (s : ByteArray) (q : List B) (hq : q.length ≤ 1048577) (hm : ∀ x ∈ q, x.length ≤ 1048576) : ∀ d i, i + d = q.length → Ev (fun k => spec_NameOk.l0 k s (q.map S) (i : Int)) ((if i = 0 then partsOk q else (q.drop i).all partOk) && decide (s.size ≤ 60)) := by
  intro d
  induction d with
  | zero =>
    intro i hi
    refine Ev.step (f := fun _ => some (decide ((s.size : Int) ≤ 60))) (fun k => by rw [spec_NameOk.l0, if_neg (by rw [List.length_map]; omega)]) (ev_use (Ev.now _) ?_)
    have e1 : decide ((s.size : Int) ≤ 60) = decide (s.size ≤ 60) := by
      by_cases h : s.size ≤ 60
      · rw [decide_eq_true h, decide_eq_true (by omega)]
      · rw [decide_eq_false h, decide_eq_false (by omega)]
    rw [e1, List.drop_of_length_le (by omega)]
    by_cases h0 : i = 0
    · have : q = [] := List.eq_nil_of_length_eq_zero (by omega)
      rw [if_pos h0, this]; rfl
    · rw [if_neg h0]; rfl
  | succ d ih =>
    intro i hi
    have hlt : i < q.length := by omega
    have hmem : q.getD i [] ∈ q := by rw [List.getD_eq_getElem?_getD, List.getElem?_eq_getElem hlt]; exact List.getElem_mem hlt
    have hml := hm _ hmem
    have hn := ih (i + 1) (by omega)
    rw [if_neg (by omega)] at hn
    have hlm : i < (q.map S).length := by rw [List.length_map]; exact hlt
    have en : (⟨#[]⟩ : ByteArray) = ByteArray.empty := rfl
    by_cases hx : q.getD i [] = nm12
    · refine ev_use (Ev.step (f := fun _ => some false) (fun k => ?_) (Ev.now _)) ?_
      · rw [spec_NameOk.l0, if_pos (by omega), if_pos (by omega), rd_S, toList_S, if_pos hx]
      · by_cases h0 : i = 0
        · rw [if_pos h0]
          cases q with
          | nil => simp at hlt
          | cons x r =>
            subst h0
            have hx' : x = nm12 := hx
            rw [partsOk, headOk, hx']; rfl
        · rw [if_neg h0, drop_getD q i [] hlt, List.all_cons, hx]; rfl
    · have inner : ∀ p : B, p.length ≤ 1048576 → Ev (fun k => spec_NameOk.j2 k s (q.map S) (i : Int) (S p)) (p.all nc && ((p != []) && ((q.drop (i + 1)).all partOk && decide (s.size ≤ 60)))) := fun p hp => by
        have := spec_name_l1 s (q.map S) i hlm (by rw [List.length_map]; omega) (S p) (by rw [size_S]; omega) hn
        rw [L_S] at this
        exact Ev.step (fun k => by rw [spec_NameOk.j2]) this
      have hne : (q.getD i [] == nm12) = false := beq_eq_false_iff_ne.2 hx
      by_cases h0 : i = 0
      · subst h0
        rw [if_pos rfl]
        cases q with
        | nil => simp at hlt
        | cons x r =>
          have hx' : ¬ x = nm12 := hx
          have hne' : (x == nm12) = false := hne
          have hxl : x.length ≤ 1048576 := hml
          have e0 : ((x :: r).getD 0 []) = x := rfl
          rw [partsOk, headOk, hne', Bool.not_false, Bool.true_and]
          have flag : ∀ b : Bool, b = decide (x.head? = some 64) → Ev (fun k => spec_NameOk.j1 k s ((x :: r).map S) 0 (S x) b) (((noAt x).all nc && (noAt x != [])) && r.all partOk && decide (s.size ≤ 60)) := by
            intro b hb
            by_cases hat : x.head? = some 64
            · rw [decide_eq_true hat] at hb
              subst hb
              have en : noAt x = x.drop 1 := if_pos hat
              have hx1 : 1 ≤ x.length := by cases x with
                | nil => simp at hat
                | cons y l => simp
              have eS : (S x).extract 1 (S x).size = S (x.drop 1) := by
                apply L_inj; rw [L_extract, L_S, L_S, size_S, List.take_of_length_le (by rw [List.length_drop]; omega)]
              rw [en]
              refine ev_use (Ev.step (f := fun k => spec_NameOk.j2 k s ((x :: r).map S) 0 (S (x.drop 1))) (fun k => ?_) (inner (x.drop 1) (by rw [List.length_drop]; omega))) ?_
              · rw [spec_NameOk.j1, if_pos rfl, if_pos (by rw [size_S]; omega), eS]
              · show _ = _
                rw [Bool.and_assoc, Bool.and_assoc]; rfl
            · rw [decide_eq_false hat] at hb
              subst hb
              have en : noAt x = x := if_neg hat
              rw [en]
              refine ev_use (Ev.step (f := fun k => spec_NameOk.j2 k s ((x :: r).map S) 0 (S x)) (fun k => ?_) (inner x hxl)) ?_
              · rw [spec_NameOk.j1, if_neg (by decide)]
              · show _ = _
                rw [Bool.and_assoc, Bool.and_assoc]; rfl
          cases x with
          | nil =>
            refine Ev.step (fun k => ?_) (flag false rfl)
            have er : rdOf ByteArray.empty (([] :: r).map S) ((0 : Nat) : Int) = S [] := rd_S ([] :: r) 0
            rw [spec_NameOk.l0, if_pos (by omega), if_pos (by omega), er, toList_S, if_neg hx', if_pos (show ((0 : Nat) : Int) = 0 from rfl), if_neg (by rw [size_S]; simp)]; rfl
          | cons y l =>
            refine Ev.step (fun k => ?_) (flag ((y.toNat : Int) == 64) ?_)
            · have er : rdOf ByteArray.empty (((y :: l) :: r).map S) ((0 : Nat) : Int) = S (y :: l) := rd_S ((y :: l) :: r) 0
              have eb : bt (S (y :: l)) 0 = (y.toNat : Int) := by
                have := bt_nat (S (y :: l)) 0; rw [L_S] at this; exact this
              rw [spec_NameOk.l0, if_pos (by omega), if_pos (by omega), er, toList_S, if_neg hx', if_pos (show ((0 : Nat) : Int) = 0 from rfl), if_pos (by rw [size_S, List.length_cons]; omega), if_pos (by rw [size_S, List.length_cons]; omega), eb]; rfl
            · by_cases h : y = 64
              · subst h; rfl
              · have h1 : ¬ (y.toNat : Int) = 64 := fun e => h (byte_inj (d := 64) e)
                rw [beq_eq_false_iff_ne.2 h1, decide_eq_false]
                intro e; exact h (Option.some.inj e)
      · rw [if_neg h0, drop_getD q i [] hlt, List.all_cons, partOk, hne, Bool.not_false, Bool.true_and]
        refine ev_use (Ev.step (f := fun k => spec_NameOk.j1 k s (q.map S) (i : Int) (S (q.getD i [])) false) (fun k => ?_) (Ev.step (f := fun k => spec_NameOk.j2 k s (q.map S) (i : Int) (S (q.getD i []))) (fun k => ?_) (inner _ hml))) ?_
        · rw [spec_NameOk.l0, if_pos (by omega), if_pos (by omega), rd_S, toList_S, if_neg hx, if_neg (by omega)]
        · rw [spec_NameOk.j1, if_neg (by decide)]
        · rw [Bool.and_assoc, Bool.and_assoc]
theorem parts_len (l : B) (hl : l.length ≤ 1048576) : (cutP 47 [] l).length ≤ 1048577 ∧ ∀ x ∈ cutP 47 [] l, x.length ≤ 1048576 := by
  refine ⟨by have := (cutP_len 47 l []).2; omega, fun x hx => ?_⟩
  have key : ∀ (l p : B), x ∈ cutP 47 p l → x.length ≤ p.length + l.length := by
    intro l
    induction l with
    | nil => intro p h; simp only [cutP, List.mem_singleton] at h; subst h; simp
    | cons y l ih =>
      intro p h
      unfold cutP at h
      by_cases hy : y = 47
      · rw [if_pos hy, List.mem_cons] at h
        rcases h with rfl | h
        · omega
        · have := ih [] h; simp at *; omega
      · rw [if_neg hy] at h
        have := ih _ h; simp at *; omega
  have := key l [] hx
  simp at this; omega
theorem spec_NameOk_ev (s : ByteArray) (hs : s.size ≤ 1048576) : Ev (fun k => spec_NameOk.f k s) (nameOk (L s)) := by
  have hl := size_L s
  have hp := parts_len (L s) (by omega)
  unfold spec_NameOk.f nameOk
  refine Ev.bind (spec_l01Cut_ev s 47 (by omega)) ?_
  have := spec_name_l0 s (cutP 47 [] (L s)) hp.1 hp.2 _ 0 (Nat.zero_add _)
  rw [if_pos rfl, hl] at this
  exact this
def partsI (at0 : Bool) : List B → Bool
  | [] => true
  | p :: r => ((p != []) && ((at0 || !(p == nm12)) && p.all nc)) && r.all partOk
theorem impl_name_l0 (s : ByteArray) (at0 : Bool) (q : List B) (hq : q.length ≤ 1048577) (hm : ∀ x ∈ q, x.length ≤ 1048576) : ∀ d i, i + d = q.length → Ev (fun k => impl_NameOk.l0 k s at0 (q.map S) ((q.map S).length : Int) (i : Int)) ((if i = 0 then partsI at0 q else (q.drop i).all partOk) && decide (s.size ≤ 60)) := by
  intro d
  induction d with
  | zero =>
    intro i hi
    refine Ev.step (f := fun _ => some (decide ((s.size : Int) ≤ 60))) (fun k => by rw [impl_NameOk.l0, if_neg (by rw [List.length_map]; omega)]) (ev_use (Ev.now _) ?_)
    have e1 : decide ((s.size : Int) ≤ 60) = decide (s.size ≤ 60) := by
      by_cases h : s.size ≤ 60
      · rw [decide_eq_true h, decide_eq_true (by omega)]
      · rw [decide_eq_false h, decide_eq_false (by omega)]
    rw [e1, List.drop_of_length_le (by omega)]
    by_cases h0 : i = 0
    · have : q = [] := List.eq_nil_of_length_eq_zero (by omega)
      rw [if_pos h0, this]; rfl
    · rw [if_neg h0]; rfl
  | succ d ih =>
    intro i hi
    have hlt : i < q.length := by omega
    have hmem : q.getD i [] ∈ q := by rw [List.getD_eq_getElem?_getD, List.getElem?_eq_getElem hlt]; exact List.getElem_mem hlt
    have hml := hm _ hmem
    have hn := ih (i + 1) (by omega)
    rw [if_neg (by omega)] at hn
    have hlm : (i : Int) < ((q.map S).length : Int) := by rw [List.length_map]; omega
    have goal : ∀ g : Bool, (g = true → i = 0 ∧ at0 = true) → (i = 0 ∧ at0 = true → g = true) → Ev (fun k => impl_NameOk.l0 k s at0 (q.map S) ((q.map S).length : Int) (i : Int)) (((q.getD i [] != []) && ((g || !(q.getD i [] == nm12)) && (q.getD i []).all nc)) && ((q.drop (i + 1)).all partOk && decide (s.size ≤ 60))) := by
      intro g hg1 hg2
      generalize hx : q.getD i [] = x at hml
      have ha := impl_all_nc (S x) (by rw [size_S]; omega)
      rw [L_S] at ha
      have rest : Ev (fun k => (impl_all__impl_NameOk_1.f k (S x)).bind fun t => if t = true then impl_NameOk.l0 k s at0 (q.map S) ((q.map S).length : Int) ((i + 1 : Nat) : Int) else some false) (x.all nc && ((q.drop (i + 1)).all partOk && decide (s.size ≤ 60))) := by
        refine Ev.bind ha ?_
        by_cases h : x.all nc = true
        · rw [h, Bool.true_and]; exact ev_pos rfl hn
        · simp only [Bool.not_eq_true] at h; rw [h]; exact ev_neg (by simp) (Ev.now _)
      have er : rdOf ByteArray.empty (q.map S) (i : Int) = S x := by rw [rd_S, hx]
      refine Ev.step (f := fun k => if x = ([] : B) then some false else if x = nm12 then (if at0 = true then (if (i : Int) = 0 then ((impl_all__impl_NameOk_1.f k (S x)).bind fun t => if t = true then impl_NameOk.l0 k s at0 (q.map S) ((q.map S).length : Int) ((i + 1 : Nat) : Int) else some false) else some false) else some false) else ((impl_all__impl_NameOk_1.f k (S x)).bind fun t => if t = true then impl_NameOk.l0 k s at0 (q.map S) ((q.map S).length : Int) ((i + 1 : Nat) : Int) else some false)) (fun k => ?_) ?_
      · rw [impl_NameOk.l0, if_pos hlm, if_pos (by omega), if_pos hlm, er, toList_S, wa1 i (by omega)]
      · by_cases h1 : x = []
        · have : (x != ([] : B)) = false := by rw [h1]; rfl
          rw [this]; exact ev_pos h1 (Ev.now _)
        · rw [bne_iff_ne.2 h1, Bool.true_and]
          refine ev_neg h1 ?_
          by_cases h2 : x = nm12
          · have e2 : (x == nm12) = true := beq_iff_eq.2 h2
            rw [e2]
            refine ev_pos h2 ?_
            by_cases h3 : at0 = true
            · refine ev_pos h3 ?_
              by_cases h4 : i = 0
              · rw [hg2 ⟨h4, h3⟩, Bool.true_or, Bool.true_and]; exact ev_pos (by omega) rest
              · have : g = false := by simpa using fun e => h4 (hg1 e).1
                rw [this]; exact ev_neg (by omega) (Ev.now _)
            · have : g = false := by simpa using fun e => h3 (hg1 e).2
              rw [this]; exact ev_neg h3 (Ev.now _)
          · have e2 : (x == nm12) = false := beq_eq_false_iff_ne.2 h2
            rw [e2, Bool.not_false, Bool.or_true, Bool.true_and]
            exact ev_neg h2 rest
    by_cases h0 : i = 0
    · subst h0
      rw [if_pos rfl]
      have := goal at0 (fun h => ⟨rfl, h⟩) (fun h => h.2)
      cases q with
      | nil => simp at hlt
      | cons x r => exact ev_use this (Bool.and_assoc _ _ _).symm
    · rw [if_neg h0, drop_getD q i [] hlt, List.all_cons]
      have ep : partOk (q.getD i []) = ((q.getD i [] != []) && ((false || !(q.getD i [] == nm12)) && (q.getD i []).all nc)) := by
        unfold partOk
        cases (q.getD i [] == nm12) <;> cases (q.getD i []).all nc <;> cases (q.getD i [] != []) <;> rfl
      rw [ep]
      exact ev_use (goal false (fun h => by cases h) (fun h => absurd h.1 h0)) (Bool.and_assoc _ _ _).symm
theorem noAt_eq (l : B) : noAt l = Lib.trimPrefix l [64] := by
  unfold noAt Lib.trimPrefix Lib.hasPrefix
  cases l with
  | nil => rfl
  | cons y r =>
    by_cases h : y = 64
    · subst h; rfl
    · have e : ((64 : UInt8) == y) = false := beq_eq_false_iff_ne.2 fun e => h e.symm
      simp [List.isPrefixOf, e, h]
theorem at_eq0 (l : B) : decide (l.head? = some 64) = Lib.hasPrefix l [64] := by
  unfold Lib.hasPrefix
  cases l with
  | nil => rfl
  | cons y r =>
    by_cases h : y = 64
    · subst h; simp [List.isPrefixOf]
    · have e : ((64 : UInt8) == y) = false := beq_eq_false_iff_ne.2 fun e => h e.symm
      simp [List.isPrefixOf, e, h]
theorem parts_at (l : B) : partsOk (cutP 47 [] l) = partsI (decide (l.head? = some 64)) (cutP 47 [] (noAt l)) := by
  have plain : ∀ x r, noAt x = x → partsOk (x :: r) = (((x != []) && ((!(x == nm12)) && x.all nc)) && r.all partOk) := by
    intro x r e
    rw [partsOk, headOk, e]
    congr 1
    cases (x == nm12) <;> cases x.all nc <;> cases (x != []) <;> rfl
  have hc := (cutP_len 47 (noAt l) []).1
  by_cases h : l.head? = some 64
  · cases l with
    | nil => simp at h
    | cons y r =>
      have hy : y = 64 := Option.some.inj h
      subst hy
      have en : noAt (64 :: r) = r := if_pos rfl
      rw [en] at hc ⊢
      have e1 : cutP 47 [] (64 :: r) = cutP 47 ([64] ++ []) r := by
        rw [cutP, if_neg (by decide)]; rfl
      rw [e1, cutP_pre]
      cases hq : cutP 47 [] r with
      | nil => rw [hq] at hc; simp at hc
      | cons x xs =>
        have e2 : noAt ([64] ++ x) = x := if_pos rfl
        have e3 : (([64] ++ x : B) == nm12) = false := beq_eq_false_iff_ne.2 fun e => by
          have := congrArg List.head? e
          simp [nm12] at this
        show partsOk (([64] ++ x) :: xs) = _
        rw [partsOk, headOk, e2, e3, decide_eq_true h]
        show _ = (((x != []) && (true && x.all nc)) && xs.all partOk)
        congr 1
        cases x.all nc <;> cases (x != []) <;> rfl
  · have en : noAt l = l := if_neg h
    rw [en, decide_eq_false h]
    cases hq : cutP 47 [] l with
    | nil => rfl
    | cons x xs =>
      have e2 : noAt x = x := by
        refine if_neg fun e => h ?_
        cases l with
        | nil => rw [cutP] at hq; cases hq; exact e
        | cons y r =>
          rw [cutP] at hq
          by_cases hy : y = 47
          · rw [if_pos hy] at hq; cases hq; simp at e
          · rw [if_neg hy] at hq
            have := cutP_pre 47 r [] [y]
            rw [List.append_nil] at this
            have hq' : cutP 47 [y] r = x :: xs := hq
            rw [this] at hq'
            cases hz : cutP 47 [] r with
            | nil => rw [hz] at hq'; cases hq'
            | cons z zs =>
              rw [hz] at hq'
              have ez : [y] ++ z = x := (List.cons.inj hq').1
              rw [← ez] at e
              simpa using e
      rw [plain x xs e2]; rfl
theorem impl_NameOk_ev (s : ByteArray) (hs : s.size ≤ 1048576) : Ev (fun k => impl_NameOk.f k s) (nameOk (L s)) := by
  have hl := size_L s
  have hn : (noAt (L s)).length ≤ 1048576 := by
    unfold noAt; split
    · rw [List.length_drop]; omega
    · omega
  have hp := parts_len (noAt (L s)) hn
  unfold impl_NameOk.f nameOk
  have e1 : strings_HasPrefix.f s (⟨#[64]⟩ : ByteArray) = some (decide ((L s).head? = some 64)) := by rw [at_eq0]; rfl
  have e2 : strings_TrimPrefix.f s (⟨#[64]⟩ : ByteArray) = some (S (noAt (L s))) := by rw [noAt_eq]; rfl
  have e3 := split_one (S (noAt (L s))) 47 (by rw [size_S]; omega)
  rw [L_S] at e3
  refine ev_const e1 (ev_const e2 (ev_const e3 ?_))
  have := impl_name_l0 s (decide ((L s).head? = some 64)) (cutP 47 [] (noAt (L s))) hp.1 hp.2 _ 0 (Nat.zero_add _)
  rw [if_pos rfl, ← parts_at, hl] at this
  exact this
def plain1 (c : UInt8) : Bool := decide (33 ≤ c.toNat) && decide (c.toNat ≤ 126) && c != 34 && c != 39 && c != 44 && c != 92
def plainOk (l : B) : Bool := decide (l.length ≤ 100) && l.all plain1
theorem impl_PlainOk_1_eq (c : UInt8) : impl_PlainOk_1.f (c.toNat : Int) = some (plain1 c) := by
  revert c
  refine all_bytes ?_
  decide +kernel
theorem impl_all_plain (s : ByteArray) (hs : s.size ≤ 1099511627776) : Ev (fun k => impl_all__impl_PlainOk_1.f k s) ((L s).all plain1) := by
  refine ev_use (loop_up (fun k i (_ : Unit) => impl_all__impl_PlainOk_1.l0 k s (s.size : Int) i) (L s).length (fun _ _ => True) (fun i _ => ((L s).drop i).all plain1) ?_ ?_ 0 () (by omega) trivial) (by simp)
  · intro st _
    refine Ev.step (f := fun k => some true) (fun k => by rw [impl_all__impl_PlainOk_1.l0, if_neg (by rw [size_L]; omega)]) ?_
    simpa using Ev.now true
  · intro i st hi _ ih
    have hz : (i : Int) < (s.size : Int) := by rw [size_L]; omega
    by_cases h : plain1 (at_ (L s) i) = true
    · refine Ev.step (f := fun k => impl_all__impl_PlainOk_1.l0 k s (s.size : Int) ((i + 1 : Nat) : Int)) (fun k => ?_) (ev_use (ih () trivial) ?_)
      · rw [impl_all__impl_PlainOk_1.l0, if_pos hz, if_pos (by omega), if_pos hz, bt_nat, impl_PlainOk_1_eq, Option.bind_some, if_pos h, inc i (by rw [← size_L] at hi; omega)]
      · rw [drop_at _ _ hi, List.all_cons, h, Bool.true_and]
    · refine Ev.step (f := fun k => some false) (fun k => ?_) ?_
      · rw [impl_all__impl_PlainOk_1.l0, if_pos hz, if_pos (by omega), if_pos hz, bt_nat, impl_PlainOk_1_eq, Option.bind_some, if_neg h]
      · rw [drop_at _ _ hi, List.all_cons]; simp only [Bool.not_eq_true] at h; rw [h]; exact Ev.now _
theorem impl_PlainOk_ev (s : ByteArray) (hs : s.size ≤ 1099511627776) : Ev (fun k => impl_PlainOk.f k s) (plainOk (L s)) := by
  unfold impl_PlainOk.f plainOk
  rw [← size_L]
  by_cases h : (s.size : Int) ≤ 100
  · refine ev_pos h (ev_use (Ev.bind (impl_all_plain s hs) (Ev.now _)) ?_)
    have : s.size ≤ 100 := by omega
    simp [this]
  · refine ev_neg h ?_
    have : ¬ s.size ≤ 100 := by omega
    simpa [this] using Ev.now false
theorem spec_PlainOk_ev (s : ByteArray) (hs : s.size ≤ 1099511627776) : Ev (fun k => spec_PlainOk.f k s) (plainOk (L s)) := by
  have hd : plainOk (L s) = (((L s).drop 0).all plain1 && decide (s.size ≤ 100)) := by
    unfold plainOk; rw [← size_L, Bool.and_comm]; rfl
  rw [hd]
  refine loop_up (fun k i (_ : Unit) => spec_PlainOk.l0 k s i) (L s).length (fun _ _ => True) (fun i _ => ((L s).drop i).all plain1 && decide (s.size ≤ 100)) ?_ ?_ 0 () (by omega) trivial
  · intro st _
    refine Ev.step (f := fun k => some (decide (s.size ≤ 100))) (fun k => ?_) ?_
    · rw [spec_PlainOk.l0, if_neg (by rw [size_L]; omega)]
      by_cases h : s.size ≤ 100
      · rw [if_pos (by omega), decide_eq_true h, decide_eq_true (by omega)]
      · rw [if_neg (by omega), decide_eq_false h]
    · simpa using Ev.now (decide (s.size ≤ 100))
  · intro i st hi _ ih
    have hz : (i : Int) < (s.size : Int) := by rw [size_L]; omega
    have hb := byte_lt (at_ (L s) i)
    by_cases h : plain1 (at_ (L s) i) = true
    · refine Ev.step (f := fun k => spec_PlainOk.l0 k s ((i + 1 : Nat) : Int)) (fun k => ?_) (ev_use (ih () trivial) ?_)
      · rw [spec_PlainOk.l0, if_pos hz, if_pos (by omega), bt_nat, w64 (by omega) (by omega), spec_l01In_eq, Option.bind_some, inc i (by rw [← size_L] at hi; omega)]
        revert h; generalize at_ (L s) i = c; intro h
        have e : ∀ c : UInt8, plain1 c = true → (decide ((33 : Int) ≤ (c.toNat : Int) ∧ (c.toNat : Int) ≤ 126) = true ∧ ¬ (c.toNat : Int) = 34 ∧ ¬ (c.toNat : Int) = 39 ∧ ¬ (c.toNat : Int) = 44 ∧ ¬ (c.toNat : Int) = 92) := all_bytes (by decide +kernel)
        obtain ⟨e1, e2, e3, e4, e5⟩ := e c h
        rw [if_pos e1, if_neg e2, if_neg e3, if_neg e4, if_neg e5]
      · rw [drop_at _ _ hi, List.all_cons, h, Bool.true_and]
    · refine Ev.step (f := fun k => some false) (fun k => ?_) ?_
      · rw [spec_PlainOk.l0, if_pos hz, if_pos (by omega), bt_nat, w64 (by omega) (by omega), spec_l01In_eq, Option.bind_some]
        revert h; generalize at_ (L s) i = c; intro h
        have e : ∀ c : UInt8, ¬ plain1 c = true → ¬ (decide ((33 : Int) ≤ (c.toNat : Int) ∧ (c.toNat : Int) ≤ 126) = true ∧ ¬ (c.toNat : Int) = 34 ∧ ¬ (c.toNat : Int) = 39 ∧ ¬ (c.toNat : Int) = 44 ∧ ¬ (c.toNat : Int) = 92) := all_bytes (by decide +kernel)
        have e := e c h
        by_cases e1 : decide ((33 : Int) ≤ (c.toNat : Int) ∧ (c.toNat : Int) ≤ 126) = true
        · rw [if_pos e1]
          by_cases e2 : (c.toNat : Int) = 34
          · rw [if_pos e2]
          · rw [if_neg e2]
            by_cases e3 : (c.toNat : Int) = 39
            · rw [if_pos e3]
            · rw [if_neg e3]
              by_cases e4 : (c.toNat : Int) = 44
              · rw [if_pos e4]
              · rw [if_neg e4]
                by_cases e5 : (c.toNat : Int) = 92
                · rw [if_pos e5]
                · exact absurd ⟨e1, e2, e3, e4, e5⟩ e
        · rw [if_neg e1]
      · rw [drop_at _ _ hi, List.all_cons]; simp only [Bool.not_eq_true] at h; rw [h]; exact Ev.now _
def vtail (l : List ByteArray) : B := if l = [] then [] else 45 :: Lib.join (l.map L) [46]
def vcore (a b c : Int) : B := Lib.itoa a ++ (46 :: (Lib.itoa b ++ (46 :: Lib.itoa c)))
def vtext (a b c : Int) (l : List ByteArray) : B := if verOk a b c l = true then vcore a b c ++ vtail l else []
theorem num9_is {n : Int} (h : num9 n = true) : 0 ≤ n ∧ n ≤ 999999999 := of_decide_eq_true h
theorem verOk_is {a b c : Int} {l : List ByteArray} (h : verOk a b c l = true) : (0 ≤ a ∧ a ≤ 999999999) ∧ (0 ≤ b ∧ b ≤ 999999999) ∧ (0 ≤ c ∧ c ≤ 999999999) ∧ l.length ≤ 5 ∧ ∀ x ∈ l, preOk (L x) = true := by
  unfold verOk at h
  simp only [Bool.and_eq_true, List.all_eq_true, decide_eq_true_eq] at h
  exact ⟨num9_is h.1.1.1, num9_is h.1.1.2, num9_is h.1.2, h.2.2, h.2.1⟩
theorem preOk_len {l : B} (h : preOk l = true) : 1 ≤ l.length ∧ l.length ≤ 20 := by
  unfold preOk at h
  simp only [Bool.and_eq_true, decide_eq_true_eq] at h
  exact h.2.1
theorem itoa9 {n : Int} (h : 0 ≤ n ∧ n ≤ 999999999) : (Lib.itoa n).length ≤ 9 := by
  have e : n = ((n.toNat : Nat) : Int) := by omega
  rw [e, itoa_nat]
  exact dec_len_le 8 _ (by rw [show 8 + 1 = 9 from rfl, p9]; omega)
theorem joinTail_len : ∀ (r : List ByteArray), (∀ x ∈ r, (L x).length ≤ 20) → (Lib.joinTail [46] (r.map L)).length ≤ 21 * r.length
  | [], _ => by simp [Lib.joinTail]
  | x :: r, h => by
    have := joinTail_len r fun y hy => h y (by simp [hy])
    have hx := h x (by simp)
    unfold Lib.joinTail at *
    rw [List.map_cons, List.map_cons, List.flatten_cons, List.length_append, List.length_append, List.length_cons]
    simp at *; omega
theorem vtail_len {l : List ByteArray} (h5 : l.length ≤ 5) (h : ∀ x ∈ l, (L x).length ≤ 20) : (vtail l).length ≤ 106 := by
  unfold vtail
  cases l with
  | nil => simp
  | cons x r =>
    rw [if_neg (by simp), List.map_cons, Lib.join_cons, List.length_cons, List.length_append]
    have := joinTail_len r fun y hy => h y (by simp [hy])
    have hx := h x (by simp)
    simp at h5; omega
theorem vcore_len {a b c : Int} (ha : 0 ≤ a ∧ a ≤ 999999999) (hb : 0 ≤ b ∧ b ≤ 999999999) (hc : 0 ≤ c ∧ c ≤ 999999999) : (vcore a b c).length ≤ 29 := by
  have := itoa9 ha; have := itoa9 hb; have := itoa9 hc
  unfold vcore; simp; omega
theorem vtext_len (a b c : Int) (l : List ByteArray) : (vtext a b c l).length ≤ 135 := by
  unfold vtext
  by_cases h : verOk a b c l = true
  · obtain ⟨ha, hb, hc, h5, hl⟩ := verOk_is h
    have := vcore_len ha hb hc
    have := vtail_len h5 fun x hx => (preOk_len (hl x hx)).2
    rw [if_pos h, List.length_append]; omega
  · rw [if_neg h]; simp
theorem core_S (a b c : Int) : (((S (Lib.itoa a) ++ (⟨#[46]⟩ : ByteArray)) ++ S (Lib.itoa b)) ++ (⟨#[46]⟩ : ByteArray)) ++ S (Lib.itoa c) = S (vcore a b c) := by
  apply L_inj
  rw [L_S]
  simp only [L_append, L_S]
  show ((Lib.itoa a ++ [46]) ++ Lib.itoa b ++ [46]) ++ Lib.itoa c = _
  unfold vcore; simp
theorem one_size (c : UInt8) : (⟨#[c]⟩ : ByteArray).size = 1 := rfl
theorem put_sep (acc : B) (c : UInt8) (x : ByteArray) : (S acc ++ (⟨#[c]⟩ : ByteArray)) ++ x = S (acc ++ (c :: L x)) := by
  apply L_inj; rw [L_S, L_append, L_append, L_S]
  show (acc ++ [c]) ++ L x = _
  simp
theorem spec_VersionText_l (a b c : Int) (l : List ByteArray) (h5 : l.length ≤ 5) (h20 : ∀ x ∈ l, (L x).length ≤ 20) : ∀ d i (acc : B), i + d = l.length → 1 ≤ i → acc.length ≤ 100 + 21 * i →
    Ev (fun k => spec_VersionText.l0 k (S acc) (i : Int) a b c l) (S (acc ++ Lib.joinTail [46] ((l.drop i).map L))) := by
  intro d
  induction d with
  | zero =>
    intro i acc hi h1 ha
    rw [List.drop_of_length_le (by omega)]
    refine Ev.step (f := fun k => some (S acc)) (fun k => by rw [spec_VersionText.l0, if_neg (by omega)]) (ev_use (Ev.now _) ?_)
    simp [Lib.joinTail]
  | succ d ih =>
    intro i acc hi h1 ha
    have hlt : i < l.length := by omega
    have hm := h20 _ (getD_mem l i ByteArray.empty hlt)
    have ee : rdOf ByteArray.empty l (i : Int) = l.getD i ByteArray.empty := rfl
    rw [drop_getD l i ByteArray.empty hlt, List.map_cons]
    have e2 : Lib.joinTail [46] (L (l.getD i ByteArray.empty) :: (l.drop (i + 1)).map L) = (46 :: L (l.getD i ByteArray.empty)) ++ Lib.joinTail [46] ((l.drop (i + 1)).map L) := by
      unfold Lib.joinTail; rw [List.map_cons, List.flatten_cons]; rfl
    rw [e2, ← List.append_assoc]
    refine Ev.step (fun k => ?_) (ih (i + 1) _ (by omega) (by omega) (by rw [List.length_append, List.length_cons]; omega))
    rw [spec_VersionText.l0, if_pos (by omega), if_neg (by omega), if_pos (by rw [size_S]; omega), if_pos (by omega), ee, if_pos (by rw [ByteArray.size_append, size_S, one_size, size_L]; omega), put_sep, wa1 i (by omega)]
theorem spec_VersionText_ev (a b c : Int) (l : List ByteArray) (hl : l.length ≤ 1125899906842624) (hs : ∀ x ∈ l, x.size ≤ 1099511627776) : Ev (fun k => spec_VersionText.f k a b c l) (S (vtext a b c l)) := by
  unfold spec_VersionText.f vtext
  refine Ev.bind (spec_VersionOk_ev a b c l hl hs) ?_
  by_cases h : verOk a b c l = true
  · obtain ⟨ha, hb, hc, h5, hall⟩ := verOk_is h
    have h20 : ∀ x ∈ l, (L x).length ≤ 20 := fun x hx => (preOk_len (hall x hx)).2
    have la := itoa9 ha; have lb := itoa9 hb; have lc := itoa9 hc
    rw [if_pos h]
    refine ev_pos h (Ev.bind (spec_DecText_ev a (by omega) (by omega)) (ev_pos (by rw [size_S]; omega) (Ev.bind (spec_DecText_ev b (by omega) (by omega)) ?_)))
    refine ev_pos (by rw [ByteArray.size_append, size_S, size_S, one_size]; omega) (ev_pos (by rw [ByteArray.size_append, ByteArray.size_append, size_S, size_S, one_size]; omega) (Ev.bind (spec_DecText_ev c (by omega) (by omega)) ?_))
    refine ev_pos (by simp only [ByteArray.size_append, size_S, one_size]; omega) ?_
    rw [core_S]
    have lv := vcore_len ha hb hc
    cases l with
    | nil =>
      refine Ev.step (f := fun k => some (S (vcore a b c))) (fun k => by rw [spec_VersionText.l0, if_neg (by simp)]) (ev_use (Ev.now _) ?_)
      simp [vtail]
    | cons x r =>
      have hx := h20 x (by simp)
      have e2 : vcore a b c ++ vtail (x :: r) = (vcore a b c ++ (45 :: L x)) ++ Lib.joinTail [46] (((x :: r).drop 1).map L) := by
        unfold vtail
        rw [if_neg (by simp), List.map_cons, Lib.join_cons, List.append_assoc]; rfl
      rw [e2]
      refine Ev.step (fun k => ?_) (spec_VersionText_l a b c (x :: r) h5 h20 r.length 1 _ (by simp; omega) (by omega) (by rw [List.length_append, List.length_cons]; omega))
      have ee : rdOf ByteArray.empty (x :: r) 0 = x := rfl
      rw [spec_VersionText.l0, if_pos (by simp), if_pos rfl, if_pos (by rw [size_S]; omega), if_pos (by omega), ee, if_pos (by rw [ByteArray.size_append, size_S, one_size, size_L]; omega), put_sep, show wrap64 (0 + 1) = ((1 : Nat) : Int) from wa1 0 (by omega)]
  · rw [if_neg h]
    exact ev_neg h (Ev.now _)
theorem join_some (l : List ByteArray) (h5 : l.length ≤ 5) (h20 : ∀ x ∈ l, (L x).length ≤ 20) : strings_Join.f l (⟨#[46]⟩ : ByteArray) = some (S (Lib.join (l.map L) [46])) := by
  unfold strings_Join.f
  have e : (l.map (·.data.toList)) = l.map L := rfl
  have e2 : (⟨#[46]⟩ : ByteArray).data.toList = [46] := rfl
  rw [e, e2, if_pos]
  · rfl
  · refine ⟨by omega, ?_⟩
    cases l with
    | nil => simp [Lib.join, List.intercalate]
    | cons x r =>
      rw [List.map_cons, Lib.join_cons, List.length_append]
      have := joinTail_len r fun y hy => h20 y (by simp [hy])
      have hx := h20 x (by simp)
      simp at h5; omega
theorem impl_VersionText_ev (a b c : Int) (l : List ByteArray) (hl : l.length ≤ 1125899906842624) (hs : ∀ x ∈ l, x.size ≤ 1099511627776) : Ev (fun k => impl_VersionText.f k a b c l) (S (vtext a b c l)) := by
  unfold impl_VersionText.f vtext
  refine Ev.bind (impl_VersionOk_ev a b c l hl hs) ?_
  by_cases h : verOk a b c l = true
  · obtain ⟨ha, hb, hc, h5, hall⟩ := verOk_is h
    have h20 : ∀ x ∈ l, (L x).length ≤ 20 := fun x hx => (preOk_len (hall x hx)).2
    have la := itoa9 ha; have lb := itoa9 hb; have lc := itoa9 hc
    refine ev_pos h ?_
    rw [if_pos h]
    refine ev_const (impl_DecText_eq a (by omega) (by omega)) ?_
    refine ev_pos (by rw [size_S]; omega) (ev_const (impl_DecText_eq b (by omega) (by omega)) ?_)
    refine ev_pos (by rw [ByteArray.size_append, size_S, size_S, one_size]; omega) (ev_pos (by rw [ByteArray.size_append, ByteArray.size_append, size_S, size_S, one_size]; omega) (ev_const (impl_DecText_eq c (by omega) (by omega)) ?_))
    refine ev_pos (by simp only [ByteArray.size_append, size_S, one_size]; omega) ?_
    rw [core_S]
    have lv := vcore_len ha hb hc
    cases l with
    | nil => exact ev_use (ev_neg (by simp) (Ev.now _)) (by simp [vtail])
    | cons x r =>
      have lt := vtail_len h5 h20
      have et : vtail (x :: r) = 45 :: Lib.join ((x :: r).map L) [46] := by unfold vtail; rw [if_neg (by simp)]
      rw [et, List.length_cons] at lt
      rw [et]
      refine ev_pos (by simp only [List.length_cons]; omega) ?_
      refine ev_const (join_some _ h5 h20) ?_
      refine ev_pos (by rw [size_S]; omega) ?_
      refine ev_pos (by simp only [ByteArray.size_append, size_S, one_size]; omega) ?_
      refine ev_use (Ev.now _) ?_
      apply L_inj
      rw [L_append, L_append, L_S, L_S, L_S]; rfl
  · exact ev_use (ev_neg h (Ev.now _)) (by rw [if_neg h]; rfl)
def idx (l : B) (c : UInt8) : Int := Lib.indexByte l c
theorem idx_nil (c : UInt8) : idx [] c = -1 := rfl
theorem idx_cons (b : UInt8) (l : B) (c : UInt8) : idx (b :: l) c = if b = c then 0 else if idx l c = -1 then -1 else idx l c + 1 := by
  show Lib.indexByte (b :: l) c = _
  rw [Lib.indexByte]
  by_cases h : b = c
  · simp [h]
  · simp [h]; rfl
theorem idx_ge (l : B) (c : UInt8) : -1 ≤ idx l c := Lib.indexByte_ge l c
theorem idx_lt (l : B) (c : UInt8) : idx l c < l.length := by
  induction l with
  | nil => rw [idx_nil]; simp
  | cons b l ih =>
    rw [idx_cons, List.length_cons]
    split
    · omega
    · split <;> omega
def idxFrom (l : B) (c : UInt8) (i : Nat) : Int := if idx (l.drop i) c = -1 then -1 else (i : Int) + idx (l.drop i) c
theorem idxFrom_zero (l : B) (c : UInt8) : idxFrom l c 0 = idx l c := by
  unfold idxFrom; rw [List.drop_zero]; split
  · rename_i h; rw [h]
  · simp
theorem spec_l01At_ev (s : ByteArray) (c : UInt8) (hs : s.size ≤ 1099511627776) : Ev (fun k => spec_l01At.f k s (c.toNat : Int)) (idx (L s) c) := by
  rw [← idxFrom_zero]
  refine loop_up (fun k i (_ : Unit) => spec_l01At.l0 k s (c.toNat : Int) i) (L s).length (fun _ _ => True) (fun i _ => idxFrom (L s) c i) ?_ ?_ 0 () (by omega) trivial
  · intro st _
    refine Ev.step (f := fun k => some (-1)) (fun k => by rw [spec_l01At.l0, if_neg (by rw [size_L]; omega)]) ?_
    refine ev_use (Ev.now _) ?_
    unfold idxFrom; rw [List.drop_length, idx_nil, if_pos rfl]
  · intro i st hi _ ih
    have hz : (i : Int) < (s.size : Int) := by rw [size_L]; omega
    by_cases h : at_ (L s) i = c
    · refine Ev.step (f := fun k => some (i : Int)) (fun k => ?_) (ev_use (Ev.now _) ?_)
      · rw [spec_l01At.l0, if_pos hz, if_pos (by omega), bt_nat, h, if_pos rfl]
      · unfold idxFrom; rw [drop_at _ _ hi, idx_cons, if_pos h]; simp
    · refine Ev.step (f := fun k => spec_l01At.l0 k s (c.toNat : Int) ((i + 1 : Nat) : Int)) (fun k => ?_) (ev_use (ih () trivial) ?_)
      · rw [spec_l01At.l0, if_pos hz, if_pos (by omega), bt_nat, if_neg (fun e => h (byte_inj e)), inc i (by rw [← size_L] at hi; omega)]
      · unfold idxFrom; rw [drop_at _ _ hi, idx_cons, if_neg h]
        have := idx_ge ((L s).drop (i + 1)) c
        split
        · rfl
        · rw [if_neg (by omega)]; omega
theorem cutP_mem (c : UInt8) : ∀ (l p x : B), x ∈ cutP c p l → x.length ≤ p.length + l.length := by
  intro l
  induction l with
  | nil => intro p x h; simp only [cutP, List.mem_singleton] at h; subst h; simp
  | cons y l ih =>
    intro p x h
    unfold cutP at h
    by_cases hy : y = c
    · rw [if_pos hy, List.mem_cons] at h
      rcases h with rfl | h
      · omega
      · have := ih [] x h; simp at *; omega
    · rw [if_neg hy] at h
      have := ih _ x h; simp at *; omega
def vhead (l : B) : B := if 0 ≤ idx l 45 then l.take (idx l 45).toNat else l
def vpre (l : B) : List ByteArray := if 0 ≤ idx l 45 then (cutP 46 [] (l.drop ((idx l 45).toNat + 1))).map S else []
def vpart (l : B) (i : Nat) : Int := rdec ((cutP 46 [] (vhead l)).getD i [])
def zeroV : Int × Int × Int × List ByteArray × Bool := (0, 0, 0, [], false)
def readVer (l : B) : Int × Int × Int × List ByteArray × Bool :=
  if (cutP 46 [] (vhead l)).length = 3 ∧ vtext (vpart l 0) (vpart l 1) (vpart l 2) (vpre l) = l then (vpart l 0, vpart l 1, vpart l 2, vpre l, true) else zeroV
theorem vhead_len (l : B) : (vhead l).length ≤ l.length := by
  unfold vhead; split
  · rw [List.length_take]; omega
  · omega
theorem vpre_len (l : B) : (vpre l).length ≤ l.length + 1 := by
  unfold vpre; split
  · rw [List.length_map]; have := (cutP_len 46 (l.drop ((idx l 45).toNat + 1)) []).2; rw [List.length_drop] at this; omega
  · simp
theorem vpre_mem (l : B) : ∀ x ∈ vpre l, x.size ≤ l.length := by
  intro x hx
  unfold vpre at hx
  split at hx
  · obtain ⟨y, hy, rfl⟩ := List.mem_map.1 hx
    have := cutP_mem 46 _ [] y hy
    rw [size_S]; simp at this; omega
  · simp at hx
theorem rd_cut (q : List B) (i : Nat) : rdOf ByteArray.empty (q.map S) (i : Int) = S (q.getD i []) := by
  show (q.map S).getD i ByteArray.empty = _
  rw [List.getD_eq_getElem?_getD, List.getD_eq_getElem?_getD, List.getElem?_map]
  cases q[i]? <;> rfl
theorem getD_len (q : List B) (i n : Nat) (h : ∀ x ∈ q, x.length ≤ n) : (q.getD i []).length ≤ n := by
  rw [List.getD_eq_getElem?_getD]
  cases e : q[i]? with
  | none => simp
  | some y => exact h y (List.mem_of_getElem? e)
theorem head_part (l : B) (i : Nat) : ((cutP 46 [] (vhead l)).getD i []).length ≤ l.length :=
  getD_len _ _ _ fun x hx => by have := cutP_mem 46 _ [] x hx; have := vhead_len l; simp at *; omega
theorem vhead_nil : vhead [] = [] := rfl
theorem three_ne {l : B} (h : (cutP 46 [] (vhead l)).length = 3) : l ≠ [] := by
  rintro rfl
  rw [vhead_nil] at h
  simp [cutP] at h
theorem spec_ReadVersion_j0 (s : ByteArray) (hs : s.size ≤ 1048576) : Ev (fun k => spec_ReadVersion.j0 k s (S (vhead (L s))) 0 0 0 (vpre (L s))) (readVer (L s)) := by
  have hsz := size_L s
  have hh := vhead_len (L s)
  have hc := spec_l01Cut_ev (S (vhead (L s))) 46 (by rw [size_S]; omega)
  rw [L_S] at hc
  have hp : ∀ i, (S ((cutP 46 [] (vhead (L s))).getD i [])).size ≤ 1099511627776 := fun i => by have := head_part (L s) i; rw [size_S]; omega
  have hd : ∀ i, Ev (fun k => spec_ReadDec.f k (S ((cutP 46 [] (vhead (L s))).getD i []))) (vpart (L s) i) := fun i => by
    have := spec_ReadDec_ev _ (hp i); rw [L_S] at this; exact this
  have r0 : rdOf ByteArray.empty ((cutP 46 [] (vhead (L s))).map S) 0 = S ((cutP 46 [] (vhead (L s))).getD 0 []) := rd_cut _ 0
  have r1 : rdOf ByteArray.empty ((cutP 46 [] (vhead (L s))).map S) 1 = S ((cutP 46 [] (vhead (L s))).getD 1 []) := rd_cut _ 1
  have r2 : rdOf ByteArray.empty ((cutP 46 [] (vhead (L s))).map S) 2 = S ((cutP 46 [] (vhead (L s))).getD 2 []) := rd_cut _ 2
  refine Ev.step (fun k => by rw [spec_ReadVersion.j0]) ?_
  refine Ev.bind hc ?_
  rw [List.length_map]
  unfold readVer
  by_cases h3 : (cutP 46 [] (vhead (L s))).length = 3
  · refine ev_pos (by omega) (ev_pos (by omega) ?_)
    rw [r0]
    refine Ev.bind (hd 0) (ev_pos (by omega) ?_)
    rw [r1]
    refine Ev.bind (hd 1) (ev_pos (by omega) ?_)
    rw [r2]
    refine Ev.bind (hd 2) ?_
    have hv := vpre_len (L s); have hm := vpre_mem (L s)
    refine Ev.bind (spec_VersionText_ev _ _ _ _ (by omega) fun x hx => by have := hm x hx; omega) ?_
    rw [toList_S, toList_L]
    by_cases hv : vtext (vpart (L s) 0) (vpart (L s) 1) (vpart (L s) 2) (vpre (L s)) = L s
    · exact ev_use (ev_pos hv (Ev.now _)) (if_pos ⟨h3, hv⟩).symm
    · exact ev_use (ev_neg hv (Ev.now _)) (if_neg fun h => hv h.2).symm
  · exact ev_use (ev_neg (by omega) (Ev.now _)) (if_neg fun h => h3 h.1).symm
theorem spec_ReadVersion_ev (s : ByteArray) (hs : s.size ≤ 1048576) : Ev (fun k => spec_ReadVersion.f k s) (readVer (L s)) := by
  have hsz := size_L s
  have h := spec_ReadVersion_j0 s hs
  have hl := idx_lt (L s) 45
  have hg := idx_ge (L s) 45
  unfold spec_ReadVersion.f
  refine Ev.bind (spec_l01At_ev s 45 (by omega)) ?_
  unfold vhead vpre at h
  by_cases h0 : 0 ≤ idx (L s) 45
  · rw [if_pos h0, if_pos h0] at h
    have hw : wrap64 (idx (L s) 45 + 1) = (((idx (L s) 45).toNat + 1 : Nat) : Int) := by rw [w64 (by omega) (by omega)]; omega
    rw [hw]
    refine ev_pos h0 (ev_pos h0 (ev_pos (by omega) (ev_pos (by omega) (ev_pos (by omega) ?_))))
    have e1 : s.extract ((((idx (L s) 45).toNat + 1 : Nat) : Int)).toNat s.size = S ((L s).drop ((idx (L s) 45).toNat + 1)) := by
      apply L_inj; rw [L_extract, L_S, Int.toNat_natCast, size_L, List.take_of_length_le (by rw [List.length_drop]; omega)]
    have e2 : s.extract 0 (idx (L s) 45).toNat = S ((L s).take (idx (L s) 45).toNat) := by
      apply L_inj; rw [L_extract, L_S, List.drop_zero, Nat.sub_zero]
    have hc := spec_l01Cut_ev (S ((L s).drop ((idx (L s) 45).toNat + 1))) 46 (by rw [size_S, List.length_drop]; omega)
    rw [L_S] at hc
    rw [e1, e2]
    exact Ev.bind hc h
  · rw [if_neg h0, if_neg h0, S_L] at h
    exact ev_neg h0 h
theorem impl_cut (s : ByteArray) (hs : s.size ≤ 1048576) : strings_Cut.f s (⟨#[45]⟩ : ByteArray) = some (S (vhead (L s)), (if 0 ≤ idx (L s) 45 then S ((L s).drop ((idx (L s) 45).toNat + 1)) else ByteArray.empty), decide (0 ≤ idx (L s) 45)) := by
  unfold strings_Cut.f
  rw [if_pos (by omega)]
  have e : (⟨#[45]⟩ : ByteArray).data.toList = [45] := rfl
  have e2 : s.data.toList = L s := rfl
  rw [e, e2]
  unfold Lib.cut
  rw [Lib.index_one]
  show some (_, _, _) = _
  unfold vhead
  by_cases h : 0 ≤ idx (L s) 45
  · have h' : 0 ≤ Lib.indexByte (L s) 45 := h
    rw [if_pos h', if_pos h, if_pos h, decide_eq_true h]; rfl
  · have h' : ¬ 0 ≤ Lib.indexByte (L s) 45 := h
    rw [if_neg h', if_neg h, if_neg h, decide_eq_false h]; rfl
theorem impl_ReadVersion_ev (s : ByteArray) (hs : s.size ≤ 1048576) : Ev (fun k => impl_ReadVersion.f k s) (readVer (L s)) := by
  have hsz := size_L s
  have hh := vhead_len (L s)
  have hl := idx_lt (L s) 45
  have hp : ∀ i, (S ((cutP 46 [] (vhead (L s))).getD i [])).size ≤ 1099511627776 := fun i => by have := head_part (L s) i; rw [size_S]; omega
  have hd : ∀ i, impl_ReadDec.f (S ((cutP 46 [] (vhead (L s))).getD i [])) = some (vpart (L s) i) := fun i => by
    have := impl_ReadDec_eq _ (hp i); rw [L_S] at this; exact this
  have r0 : rdOf ByteArray.empty ((cutP 46 [] (vhead (L s))).map S) 0 = S ((cutP 46 [] (vhead (L s))).getD 0 []) := rd_cut _ 0
  have r1 : rdOf ByteArray.empty ((cutP 46 [] (vhead (L s))).map S) 1 = S ((cutP 46 [] (vhead (L s))).getD 1 []) := rd_cut _ 1
  have r2 : rdOf ByteArray.empty ((cutP 46 [] (vhead (L s))).map S) 2 = S ((cutP 46 [] (vhead (L s))).getD 2 []) := rd_cut _ 2
  have hsp := split_one (S (vhead (L s))) 46 (by rw [size_S]; omega)
  rw [L_S] at hsp
  have e46 : (⟨#[46]⟩ : ByteArray) = S [46] := rfl
  unfold impl_ReadVersion.f
  refine ev_const (impl_cut s hs) ?_
  rw [e46]
  refine ev_const hsp ?_
  rw [List.length_map]
  unfold readVer
  by_cases h3 : (cutP 46 [] (vhead (L s))).length = 3
  · have hne := three_ne h3
    refine ev_pos (by omega) (ev_pos (by omega) ?_)
    rw [r0]
    refine ev_const (hd 0) (ev_pos (by omega) ?_)
    rw [r1]
    refine ev_const (hd 1) (ev_pos (by omega) ?_)
    rw [r2]
    refine ev_const (hd 2) ?_
    have hv := vpre_len (L s); have hm := vpre_mem (L s)
    have ht := impl_VersionText_ev (vpart (L s) 0) (vpart (L s) 1) (vpart (L s) 2) (vpre (L s)) (by omega) fun x hx => by have := hm x hx; omega
    have fin : Ev (fun k => (impl_VersionText.f k (vpart (L s) 0) (vpart (L s) 1) (vpart (L s) 2) (vpre (L s))).bind fun t => if t.toList = s.toList then (if s.toList = ([] : List UInt8) then some (0, 0, 0, ([] : List ByteArray), false) else some (vpart (L s) 0, vpart (L s) 1, vpart (L s) 2, vpre (L s), true)) else some (0, 0, 0, ([] : List ByteArray), false)) (if (cutP 46 [] (vhead (L s))).length = 3 ∧ vtext (vpart (L s) 0) (vpart (L s) 1) (vpart (L s) 2) (vpre (L s)) = L s then (vpart (L s) 0, vpart (L s) 1, vpart (L s) 2, vpre (L s), true) else zeroV) := by
      refine Ev.bind ht ?_
      rw [toList_S, toList_L]
      by_cases hv : vtext (vpart (L s) 0) (vpart (L s) 1) (vpart (L s) 2) (vpre (L s)) = L s
      · exact ev_use (ev_pos hv (ev_neg hne (Ev.now _))) (if_pos ⟨h3, hv⟩).symm
      · exact ev_use (ev_neg hv (Ev.now _)) (if_neg fun h => hv h.2).symm
    by_cases h0 : 0 ≤ idx (L s) 45
    · have hc := split_one (S ((L s).drop ((idx (L s) 45).toNat + 1))) 46 (by rw [size_S, List.length_drop]; omega)
      rw [L_S] at hc
      refine ev_pos (decide_eq_true h0) ?_
      simp only [if_pos h0]
      refine ev_const hc ?_
      have ev : vpre (L s) = (cutP 46 [] ((L s).drop ((idx (L s) 45).toNat + 1))).map S := if_pos h0
      rw [ev] at fin ⊢
      exact fin
    · refine ev_neg (by simpa using h0) ?_
      have ev : vpre (L s) = [] := if_neg h0
      rw [ev] at fin ⊢
      exact fin
  · exact ev_use (ev_neg (by omega) (Ev.now _)) (if_neg fun h => h3 h.1).symm
end Go.Proofs.YteldcmniknocpaaGreatDoor.U

end
section
namespace Go.Proofs.YteldcmniknocpaaGreatDoor.U
open Go Go.RowKit Go.Proofs.YteldcmniknocpaaGreatDoorW.PrintWords Go.Proofs.YteldcmniknocpaaGreatDoor.G
set_option linter.unusedVariables false
def isVer (l : B) : Bool := (readVer l).2.2.2.2
def verOr (l : B) : Bool := isVer l || l == []
theorem isVer_text {l : B} (h : isVer l = true) : ∃ a b c p, vtext a b c p = l ∧ readVer l = (a, b, c, p, true) := by
  unfold isVer at h
  unfold readVer at h ⊢
  split at h
  · rename_i hc
    exact ⟨_, _, _, _, hc.2, by rw [if_pos hc]⟩
  · simp [zeroV] at h
theorem isVer_len {l : B} (h : isVer l = true) : l.length ≤ 135 := by
  obtain ⟨a, b, c, p, e, _⟩ := isVer_text h
  rw [← e]; exact vtext_len _ _ _ _
theorem isVer_nil : isVer [] = false := by
  unfold isVer readVer
  rw [if_neg]
  · rfl
  · rintro ⟨h, _⟩; exact absurd rfl (three_ne h)
theorem verOr_len {l : B} (h : verOr l = true) : l.length ≤ 135 := by
  unfold verOr at h
  rw [Bool.or_eq_true] at h
  rcases h with h | h
  · exact isVer_len h
  · rw [beq_iff_eq] at h; rw [h]; simp
end Go.Proofs.YteldcmniknocpaaGreatDoor.U

end
section
namespace Go.Proofs.YteldcmniknocpaaGreatDoor.U
open Go Go.RowKit Go.Proofs.YteldcmniknocpaaGreatDoorW.PrintWords Go.Proofs.YteldcmniknocpaaGreatDoor.G
set_option linter.unusedVariables false
set_option linter.unusedSimpArgs false
def vup (a b c : Int) (l : List ByteArray) (p : Int) : Int × Int × Int :=
  if p = 0 then (a + 1, 0, 0) else if p = 1 then (a, b + 1, 0) else (a, b, if l.length = 0 then c + 1 else c)
def vnext (a b c : Int) (l : List ByteArray) (p : Int) : Int × Int × Int × List ByteArray :=
  if verOk a b c l = true ∧ 0 ≤ p ∧ p ≤ 2 ∧ verOk (vup a b c l p).1 (vup a b c l p).2.1 (vup a b c l p).2.2 [] = true then ((vup a b c l p).1, (vup a b c l p).2.1, (vup a b c l p).2.2, []) else (a, b, c, l)
theorem verOk_num {a b c : Int} {l : List ByteArray} (h : verOk a b c l = true) : (0 ≤ a ∧ a ≤ 999999999) ∧ (0 ≤ b ∧ b ≤ 999999999) ∧ (0 ≤ c ∧ c ≤ 999999999) := by
  unfold verOk at h
  simp only [Bool.and_eq_true] at h
  exact ⟨of_decide_eq_true h.1.1.1, of_decide_eq_true h.1.1.2, of_decide_eq_true h.1.2⟩
theorem w1 {a : Int} (h : 0 ≤ a ∧ a ≤ 999999999) : wrap64 (a + 1) = a + 1 := w64 (by omega) (by omega)
theorem spec_ok (a b c : Int) : Ev (fun k => spec_VersionOk.f k a b c ([] : List ByteArray)) (verOk a b c []) := spec_VersionOk_ev a b c [] (by simp) (by simp)
theorem ask_ok {g : Nat → Option Bool} {ok : Bool} {x y : Int × Int × Int × List ByteArray} (h : Ev g ok) : Ev (fun k => (g k).bind fun t => if t = true then some x else some y) (if ok = true then x else y) := by
  refine Ev.bind h ?_
  by_cases e : ok = true
  · exact ev_use (ev_pos e (Ev.now _)) (if_pos e).symm
  · exact ev_use (ev_neg e (Ev.now _)) (if_neg e).symm
theorem spec_Next_ev (a b c : Int) (l : List ByteArray) (p : Int) (hl : l.length ≤ 1048576) (hs : ∀ x ∈ l, x.size ≤ 1099511627776) : Ev (fun k => spec_Next.f k a b c l p) (vnext a b c l p) := by
  unfold spec_Next.f
  refine ev_some (ev_pos (by simp only [List.length_nil]; omega) (ev_some (Ev.bind (spec_VersionOk_ev a b c l (by omega) hs) ?_)))
  rw [List.nil_append]
  unfold vnext
  by_cases h : verOk a b c l = true
  · obtain ⟨ha, hb, hc⟩ := verOk_num h
    refine ev_pos h (ev_const (spec_l01In_eq _ _ _) ?_)
    by_cases hp : 0 ≤ p ∧ p ≤ 2
    · rw [decide_eq_true hp]
      refine Ev.step (fun k => by rw [spec_Next.j0]) (ev_neg (by decide) ?_)
      unfold vup
      by_cases h0 : p = 0
      · refine ev_pos h0 (ev_use (ask_ok (by rw [w1 ha]; exact spec_ok _ _ _)) ?_)
        rw [if_pos h0, w1 ha]
        by_cases e : verOk (a + 1) 0 0 [] = true
        · rw [if_pos e, if_pos ⟨h, hp.1, hp.2, e⟩]
        · rw [if_neg e, if_neg fun z => e z.2.2.2]
      · refine ev_neg h0 ?_
        rw [if_neg h0]
        by_cases h1 : p = 1
        · refine ev_pos h1 (ev_use (ask_ok (by rw [w1 hb]; exact spec_ok _ _ _)) ?_)
          rw [if_pos h1, w1 hb]
          by_cases e : verOk a (b + 1) 0 [] = true
          · rw [if_pos e, if_pos ⟨h, hp.1, hp.2, e⟩]
          · rw [if_neg e, if_neg fun z => e z.2.2.2]
        · refine ev_neg h1 ?_
          rw [if_neg h1]
          by_cases h2 : l.length = 0
          · refine ev_pos (by omega) (ev_use (ask_ok (by rw [w1 hc]; exact spec_ok _ _ _)) ?_)
            rw [if_pos h2, w1 hc]
            by_cases e : verOk a b (c + 1) [] = true
            · rw [if_pos e, if_pos ⟨h, hp.1, hp.2, e⟩]
            · rw [if_neg e, if_neg fun z => e z.2.2.2]
          · refine ev_neg (by omega) (ev_use (ask_ok (spec_ok _ _ _)) ?_)
            rw [if_neg h2]
            by_cases e : verOk a b c [] = true
            · rw [if_pos e, if_pos ⟨h, hp.1, hp.2, e⟩]
            · rw [if_neg e, if_neg fun z => e z.2.2.2]
    · rw [decide_eq_false hp]
      refine Ev.step (fun k => by rw [spec_Next.j0]) (ev_pos (by decide) (ev_use (Ev.now _) ?_))
      rw [if_neg fun z => hp ⟨z.2.1, z.2.2.1⟩]
  · refine ev_neg h (Ev.step (fun k => by rw [spec_Next.j0]) (ev_pos rfl (ev_use (Ev.now _) ?_)))
    rw [if_neg fun z => h z.1]
theorem vnext_len (a b c : Int) (l : List ByteArray) (p : Int) : (vnext a b c l p).2.2.2.length ≤ l.length := by
  unfold vnext
  split <;> simp
end Go.Proofs.YteldcmniknocpaaGreatDoor.U

end
section
namespace Go.Proofs.YteldcmniknocpaaGreatDoor.U
open Go Go.RowKit Go.Proofs.YteldcmniknocpaaGreatDoor.G
theorem clone_some (l : List ByteArray) (hl : l.length ≤ 1048577) : slices_Clone_string_string.f l = some l := by
  unfold slices_Clone_string_string.f; rw [if_pos (by omega)]
end Go.Proofs.YteldcmniknocpaaGreatDoor.U

end
section
namespace Go.Proofs.YteldcmniknocpaaGreatDoor.U
open Go Go.RowKit Go.Proofs.YteldcmniknocpaaGreatDoorW.PrintWords Go.Proofs.YteldcmniknocpaaGreatDoor.G
set_option linter.unusedVariables false
set_option linter.unusedSimpArgs false
def zeroS : ByteArray := ⟨#[48]⟩
theorem idx_app (l m : B) (c : UInt8) (h : 0 ≤ idx l c) : idx (l ++ m) c = idx l c := by
  induction l with
  | nil => rw [idx_nil] at h; omega
  | cons x l ih =>
    rw [idx_cons] at h ⊢
    rw [List.cons_append, idx_cons]
    by_cases hx : x = c
    · rw [if_pos hx, if_pos hx]
    · rw [if_neg hx] at h ⊢
      rw [if_neg hx]
      by_cases h1 : idx l c = -1
      · rw [if_pos h1] at h; omega
      · rw [if_neg h1] at h
        have hg := idx_ge l c
        have := ih (by omega)
        rw [this]
theorem cutP_app (c : UInt8) : ∀ (x p y : B), cutP c p (x ++ c :: y) = cutP c p x ++ cutP c [] y := by
  intro x
  induction x with
  | nil => intro p y; simp [cutP]
  | cons z x ih =>
    intro p y
    rw [List.cons_append]
    by_cases hz : z = c
    · simp only [cutP, if_pos hz]; rw [ih]; rfl
    · simp only [cutP, if_neg hz]; rw [ih]
theorem cut_zero : cutP 46 [] [48] = [[48]] := by decide
theorem vhead_app {l : B} (m : B) (h : 0 ≤ idx l 45) : vhead (l ++ m) = vhead l := by
  have hl := idx_lt l 45
  unfold vhead
  rw [idx_app l m 45 h, if_pos h, if_pos h, List.take_append_of_le_length (by omega)]
theorem vpre_app {l : B} (h : 0 ≤ idx l 45) : vpre (l ++ [46, 48]) = vpre l ++ [zeroS] := by
  have hl := idx_lt l 45
  unfold vpre
  rw [idx_app l _ 45 h, if_pos h, if_pos h, List.drop_append_of_le_length (by omega), cutP_app, cut_zero, List.map_append]; rfl
theorem vpre_idx {l : B} (h : vpre l ≠ []) : 0 ≤ idx l 45 := by
  unfold vpre at h
  by_cases h0 : 0 ≤ idx l 45
  · exact h0
  · rw [if_neg h0] at h; exact absurd rfl h
theorem joinTail_app (r : List B) (x : B) : Lib.joinTail [46] (r ++ [x]) = Lib.joinTail [46] r ++ 46 :: x := by
  unfold Lib.joinTail; simp
theorem vtail_app {p : List ByteArray} (h : p ≠ []) : vtail (p ++ [zeroS]) = vtail p ++ [46, 48] := by
  cases p with
  | nil => exact absurd rfl h
  | cons x r =>
    unfold vtail
    rw [if_neg (by simp), if_neg (by simp), List.map_append, List.map_cons, List.cons_append, Lib.join_cons, Lib.join_cons]
    show 45 :: (L x ++ Lib.joinTail [46] (r.map L ++ [[48]])) = _
    rw [joinTail_app]; simp
theorem vtext_ok {a b c : Int} {p : List ByteArray} (h : verOk a b c p = true) : vtext a b c p = vcore a b c ++ vtail p := if_pos h
theorem vtext_no {a b c : Int} {p : List ByteArray} (h : ¬ verOk a b c p = true) : vtext a b c p = [] := if_neg h
theorem vcore_ne (a b c : Int) : vcore a b c ≠ [] := by unfold vcore; simp
theorem vtext_nil (a b c : Int) (p : List ByteArray) : vtext a b c p = [] ↔ ¬ verOk a b c p = true := by
  constructor
  · intro h e
    rw [vtext_ok e, List.append_eq_nil_iff] at h
    exact vcore_ne _ _ _ h.1
  · exact vtext_no
theorem isVer_app {l : B} {a b c : Int} {p : List ByteArray} (hr : readVer l = (a, b, c, p, true)) (hp : p ≠ []) : isVer (l ++ [46, 48]) = verOk a b c (p ++ [zeroS]) ∧ (verOk a b c (p ++ [zeroS]) = true → vtext a b c (p ++ [zeroS]) = l ++ [46, 48]) := by
  unfold readVer at hr
  split at hr
  case isFalse => exact absurd hr (by simp [zeroV])
  rename_i hc
  simp only [Prod.mk.injEq, and_true] at hr
  obtain ⟨ha, hb, hcc, hpp⟩ := hr
  rw [ha, hb, hcc, hpp] at hc
  have hi : 0 ≤ idx l 45 := vpre_idx (by rw [hpp]; exact hp)
  have hv : verOk a b c p = true := by
    by_cases e : verOk a b c p = true
    · exact e
    · have := hc.2; rw [vtext_no e] at this
      exact absurd this.symm (three_ne hc.1)
  have ht : verOk a b c (p ++ [zeroS]) = true → vtext a b c (p ++ [zeroS]) = l ++ [46, 48] := fun e => by
    rw [vtext_ok e, vtail_app hp, ← List.append_assoc, ← vtext_ok hv, hc.2]
  refine ⟨?_, ht⟩
  have h1 : ∀ i, vpart (l ++ [46, 48]) i = vpart l i := fun i => by unfold vpart; rw [vhead_app _ hi]
  unfold isVer readVer
  rw [vhead_app _ hi, vpre_app hi, h1, h1, h1, ha, hb, hcc, hpp]
  by_cases e : verOk a b c (p ++ [zeroS]) = true
  · rw [if_pos ⟨hc.1, ht e⟩, e]
  · rw [if_neg]
    · simp only [Bool.not_eq_true] at e; rw [e]; rfl
    · rintro ⟨_, h2⟩; rw [vtext_no e] at h2; simp at h2
def exactL (s : ByteArray) : List S97 :=
  if (readVer (L s)).2.2.2.2 = true then
    (if vtext (readVer (L s)).1 (readVer (L s)).2.1 (if (readVer (L s)).2.2.2.1 = [] then (readVer (L s)).2.2.1 + 1 else (readVer (L s)).2.2.1) ((readVer (L s)).2.2.2.1 ++ [zeroS]) = [] then []
     else [⟨s, S (vtext (readVer (L s)).1 (readVer (L s)).2.1 (if (readVer (L s)).2.2.2.1 = [] then (readVer (L s)).2.2.1 + 1 else (readVer (L s)).2.2.1) ((readVer (L s)).2.2.2.1 ++ [zeroS]))⟩])
  else []
theorem exactL_of {s : ByteArray} {a b c : Int} {p : List ByteArray} (h : readVer (L s) = (a, b, c, p, true)) :
    exactL s = if vtext a b (if p = [] then c + 1 else c) (p ++ [zeroS]) = [] then [] else [⟨s, S (vtext a b (if p = [] then c + 1 else c) (p ++ [zeroS]))⟩] := by
  unfold exactL; rw [h]; rfl
theorem exactL_no {s : ByteArray} (h : ¬ (readVer (L s)).2.2.2.2 = true) : exactL s = [] := by unfold exactL; rw [if_neg h]
theorem read_ok {l : B} {a b c : Int} {p : List ByteArray} (hr : readVer l = (a, b, c, p, true)) : verOk a b c p = true ∧ vtext a b c p = l := by
  unfold readVer at hr
  split at hr
  case isFalse => exact absurd hr (by simp [zeroV])
  rename_i hc
  simp only [Prod.mk.injEq, and_true] at hr
  obtain ⟨ha, hb, hcc, hpp⟩ := hr
  rw [ha, hb, hcc, hpp] at hc
  refine ⟨?_, hc.2⟩
  by_cases e : verOk a b c p = true
  · exact e
  · have := hc.2; rw [vtext_no e] at this
    exact absurd this.symm (three_ne hc.1)
theorem read_len {l : B} {a b c : Int} {p : List ByteArray} {ok : Bool} (hr : readVer l = (a, b, c, p, ok)) : p.length ≤ l.length + 1 ∧ ∀ x ∈ p, x.size ≤ l.length := by
  unfold readVer at hr
  split at hr
  · simp only [Prod.mk.injEq] at hr
    rw [← hr.2.2.2.1]; exact ⟨vpre_len l, vpre_mem l⟩
  · simp only [zeroV, Prod.mk.injEq] at hr
    rw [← hr.2.2.2.1]; simp
theorem zero_pre : preOk (L zeroS) = true := by decide +kernel
theorem verOk_zero {a b c : Int} : verOk a b c [zeroS] = verOk a b c [] := by
  unfold verOk
  simp [zero_pre]
theorem less_eq (a : Int) : spec_l02Less.f a a = some 0 := by unfold spec_l02Less.f; rw [if_neg (by omega), if_neg (by omega)]
theorem less_gt (a : Int) : spec_l02Less.f (a + 1) a = some 1 := by unfold spec_l02Less.f; rw [if_neg (by omega), if_pos (by omega)]
theorem cmp_same (a b c : Int) : Ev (fun k => spec_CompareVersion.f k a b c [] a b c []) 0 := by
  unfold spec_CompareVersion.f
  rw [less_eq, less_eq, less_eq]
  refine ev_some (ev_some (ev_some ?_))
  have st : ∀ i : Nat, i < 3 → ∀ {r : Int}, Ev (fun k => spec_CompareVersion.l0 k [0, 0, 0] ((i + 1 : Nat) : Int) a b c [] a b c []) r → Ev (fun k => spec_CompareVersion.l0 k [0, 0, 0] (i : Int) a b c [] a b c []) r := fun i hi r h => by
    refine Ev.step (fun k => ?_) h
    have e : rd [0, 0, 0] (i : Int) = 0 := by
      match i, hi with
      | 0, _ => rfl
      | 1, _ => rfl
      | 2, _ => rfl
    rw [spec_CompareVersion.l0, if_pos (by omega), if_pos (by omega), if_pos (by simp; omega), if_pos e, wa1 i (by omega)]
  refine st 0 (by omega) (st 1 (by omega) (st 2 (by omega) ?_))
  refine Ev.step (f := fun k => spec_CompareVersion.j1 k true a b c [] a b c []) (fun k => by rw [spec_CompareVersion.l0, if_neg (by omega), if_pos (by simp)]) ?_
  exact Ev.step (f := fun k => some 0) (fun k => by rw [spec_CompareVersion.j1, if_pos rfl, less_eq]; rfl) (Ev.now _)
theorem cmp_up (a b c : Int) : Ev (fun k => spec_CompareVersion.f k a b (c + 1) [] a b c []) 1 := by
  unfold spec_CompareVersion.f
  rw [less_eq, less_eq, less_gt]
  refine ev_some (ev_some (ev_some ?_))
  have st : ∀ i : Nat, i < 2 → ∀ {r : Int}, Ev (fun k => spec_CompareVersion.l0 k [0, 0, 1] ((i + 1 : Nat) : Int) a b (c + 1) [] a b c []) r → Ev (fun k => spec_CompareVersion.l0 k [0, 0, 1] (i : Int) a b (c + 1) [] a b c []) r := fun i hi r h => by
    refine Ev.step (fun k => ?_) h
    have e : rd [0, 0, 1] (i : Int) = 0 := by
      match i, hi with
      | 0, _ => rfl
      | 1, _ => rfl
    rw [spec_CompareVersion.l0, if_pos (by omega), if_pos (by omega), if_pos (by simp; omega), if_pos e, wa1 i (by omega)]
  refine st 0 (by omega) (st 1 (by omega) ?_)
  refine Ev.step (f := fun k => some 1) (fun k => ?_) (Ev.now _)
  rw [spec_CompareVersion.l0, if_pos (by omega), if_pos (by omega), if_pos (by simp), if_neg (by decide)]; rfl
theorem bound_len (a b c : Int) (p : List ByteArray) : (S (vtext a b c p)).size ≤ 1048576 := by have := vtext_len a b c p; rw [size_S]; omega
theorem spec_below_ev (a b c : Int) (p : List ByteArray) (h : verOk a b c [] = true) : Ev (fun k => spec_l03Below.f k a b c p 2) (if verOk a b (c + 1) [] = true then (S (vtext a b (c + 1) [zeroS]), true) else (S [], false)) := by
  unfold spec_l03Below.f
  refine ev_some (Ev.bind (spec_Next_ev a b c [] 2 (by simp) (by simp)) ?_)
  have hn : vnext a b c [] 2 = if verOk a b (c + 1) [] = true then (a, b, c + 1, []) else (a, b, c, []) := by
    unfold vnext vup
    simp only [List.length_nil, if_pos, if_neg (show ¬ (2 : Int) = 0 by decide), if_neg (show ¬ (2 : Int) = 1 by decide)]
    by_cases e : verOk a b (c + 1) [] = true
    · rw [if_pos ⟨h, by decide, by decide, e⟩, if_pos e]
    · rw [if_neg fun z => e z.2.2.2, if_neg e]
  rw [hn]
  by_cases e : verOk a b (c + 1) [] = true
  · rw [if_pos e, if_pos e]
    refine Ev.bind (cmp_up a b c) (ev_neg (by decide) ?_)
    exact Ev.bind (spec_VersionText_ev a b (c + 1) [zeroS] (by simp) (fun x hx => by rw [List.mem_singleton] at hx; subst hx; decide)) (Ev.now _)
  · rw [if_neg e, if_neg e]
    exact Ev.bind (cmp_same a b c) (ev_pos rfl (Ev.now _))
theorem spec_Exact_ev (s : ByteArray) (hs : s.size ≤ 1048576) : Ev (fun k => spec_Exact.f k s) (exactL s) := by
  have hr := spec_ReadVersion_ev s (by omega)
  have hsz := size_L s
  unfold spec_Exact.f
  by_cases hok : (readVer (L s)).2.2.2.2 = true
  · generalize hv : readVer (L s) = v at hr hok
    obtain ⟨a, b, c, p, ok⟩ := v
    have hok' : ok = true := hok
    subst hok'
    obtain ⟨h1, h2⟩ := read_ok hv
    have h135 : (L s).length ≤ 135 := by rw [← h2]; exact vtext_len _ _ _ _
    rw [exactL_of hv]
    have hal : Ev (fun k => spec_l03Alone.f k s) (if vtext a b (if p = [] then c + 1 else c) (p ++ [zeroS]) = [] then ((⟨#[]⟩ : ByteArray), (⟨#[]⟩ : ByteArray), false) else (s, S (vtext a b (if p = [] then c + 1 else c) (p ++ [zeroS])), true)) := by
      unfold spec_l03Alone.f
      refine Ev.bind hr (ev_pos rfl ?_)
      by_cases hp : p = []
      · subst hp
        refine ev_neg (by simp) (Ev.bind (spec_below_ev a b c [] h1) ?_)
        rw [if_pos rfl, List.nil_append]
        have hz := vtext_nil a b (c + 1) [zeroS]
        rw [verOk_zero] at hz
        by_cases e : verOk a b (c + 1) [] = true
        · rw [if_pos e, if_neg (fun z => hz.1 z e)]; exact ev_pos rfl (Ev.now _)
        · rw [if_neg e, if_pos (hz.2 e)]; exact ev_neg (by simp) (Ev.now _)
      · obtain ⟨i1, i2⟩ := isVer_app hv hp
        have hz : (⟨#[46, 48]⟩ : ByteArray) = S [46, 48] := rfl
        have hs2 : s ++ (⟨#[46, 48]⟩ : ByteArray) = S (L s ++ [46, 48]) := by rw [hz]; apply L_inj; rw [L_append, L_S, L_S]
        have hr2 := spec_ReadVersion_ev (S (L s ++ [46, 48])) (by rw [size_S, List.length_append]; simp; omega)
        rw [L_S] at hr2
        refine ev_pos (by cases p with
          | nil => exact absurd rfl hp
          | cons x r => simp only [List.length_cons]; omega) (ev_pos (by omega) ?_)
        rw [hs2]
        refine Ev.bind hr2 ?_
        rw [if_neg hp]
        have hz := vtext_nil a b c (p ++ [zeroS])
        have hiv : (readVer (L s ++ [46, 48])).2.2.2.2 = verOk a b c (p ++ [zeroS]) := i1
        rw [hiv]
        by_cases e : verOk a b c (p ++ [zeroS]) = true
        · rw [if_neg (fun z => hz.1 z e), i2 e]; exact ev_pos e (Ev.now _)
        · rw [if_pos (hz.2 e)]; exact ev_neg e (Ev.now _)
    refine Ev.bind hal ?_
    by_cases e : vtext a b (if p = [] then c + 1 else c) (p ++ [zeroS]) = []
    · rw [if_pos e, if_pos e]; exact ev_neg (by simp) (Ev.now _)
    · rw [if_neg e, if_neg e]; exact ev_pos rfl (Ev.now _)
  · rw [exactL_no hok]
    refine Ev.bind (a := ((⟨#[]⟩ : ByteArray), (⟨#[]⟩ : ByteArray), false)) ?_ (ev_neg (by simp) (Ev.now _))
    unfold spec_l03Alone.f
    exact Ev.bind hr (ev_neg hok (Ev.now _))
theorem zeroPre_ev (a b c : Int) : Ev (fun k => impl_zeroPre.f k a b c) (S (vtext a b c [zeroS])) := by
  unfold impl_zeroPre.f
  exact Ev.bind (impl_VersionText_ev a b c [zeroS] (by simp) (fun x hx => by rw [List.mem_singleton] at hx; subst hx; decide)) (Ev.now _)
theorem impl_alone_ev (a b c : Int) (p : List ByteArray) (hp : p.length ≤ 1048577) (hs : ∀ x ∈ p, x.size ≤ 1099511627776) : Ev (fun k => impl_alone.f k a b c p) (S (vtext a b c p), if p = [] then S (vtext a b (wrap64 (c + 1)) [zeroS]) else S (vtext a b c (p ++ [zeroS]))) := by
  unfold impl_alone.f
  refine Ev.bind (zeroPre_ev _ _ _) ?_
  by_cases h : p = []
  · subst h
    exact ev_neg (by simp) (Ev.bind (impl_VersionText_ev a b c [] (by simp) (by simp)) (Ev.now _))
  · rw [if_neg h]
    refine ev_pos (by cases p with
      | nil => exact absurd rfl h
      | cons x r => simp only [List.length_cons]; omega) (ev_const (clone_some p (by omega)) (ev_pos (by omega) ?_))
    refine Ev.bind (impl_VersionText_ev a b c (p ++ [zeroS]) (by rw [List.length_append]; simp; omega) (fun x hx => by
      rw [List.mem_append, List.mem_singleton] at hx
      rcases hx with hx | rfl
      · exact hs x hx
      · decide)) ?_
    exact Ev.bind (impl_VersionText_ev a b c p (by omega) hs) (Ev.now _)
theorem impl_Exact_ev (s : ByteArray) (hs : s.size ≤ 1048576) : Ev (fun k => impl_Exact.f k s) (exactL s) := by
  have hr := impl_ReadVersion_ev s (by omega)
  have hsz := size_L s
  unfold impl_Exact.f
  generalize hv : readVer (L s) = v at hr
  obtain ⟨a, b, c, p, ok⟩ := v
  obtain ⟨hl, hm⟩ := read_len hv
  refine Ev.bind hr (Ev.bind (impl_alone_ev a b c p (by omega) (fun x hx => by have := hm x hx; omega)) ?_)
  cases ok with
  | false =>
    rw [exactL_no (by rw [hv]; simp)]
    exact ev_neg (by simp) (Ev.now _)
  | true =>
    obtain ⟨h1, h2⟩ := read_ok hv
    have hc := (verOk_num h1).2.2
    rw [exactL_of hv]
    refine ev_pos rfl ?_
    have e : (if p = [] then S (vtext a b (wrap64 (c + 1)) [zeroS]) else S (vtext a b c (p ++ [zeroS]))) = S (vtext a b (if p = [] then c + 1 else c) (p ++ [zeroS])) := by
      by_cases h : p = []
      · subst h; rw [if_pos rfl, if_pos rfl, w1 hc]; rfl
      · rw [if_neg h, if_neg h]
    simp only [e, toList_S, h2, S_L]
    by_cases z : vtext a b (if p = [] then c + 1 else c) (p ++ [zeroS]) = []
    · exact ev_use (ev_pos z (Ev.now _)) (if_pos z).symm
    · exact ev_use (ev_neg z (Ev.now _)) (if_neg z).symm
theorem exactL_len (s : ByteArray) : (exactL s).length ≤ 1 := by
  unfold exactL
  repeat' split
  all_goals simp
end Go.Proofs.YteldcmniknocpaaGreatDoor.U

end
