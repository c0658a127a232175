/- Plain lemmas on the laws' helpers (sizes, copies, equality): the loops, told once. No Go in them. -/
import Derived.Test.YtgfaphlpkjikkaaDoorU0
namespace Go.Proofs.YtgfaphlpkjikkaaDoor.U
open Go Go.RowKit Go.Proofs.YtgfaphlpkjikkaaDoorW.PrintWords
set_option linter.unusedVariables false
set_option linter.unusedSimpArgs false

/-- What a size function answers: what is left, or -1. -/
def szOut (left w : Int) : Int := if w ≤ left then left - w else -1
theorem szOut_neg {left w : Int} (h : left < w) : szOut left w = -1 := by unfold szOut; rw [if_neg (by omega)]
theorem szOut_pos {left w : Int} (h : w ≤ left) : szOut left w = left - w := by unfold szOut; rw [if_pos h]
/-- A room that is left over. -/
def Room (x : Int) : Prop := 0 ≤ x ∧ x ≤ 1048576
theorem room_le {left w : Int} (hl : Room left) (hw : 0 ≤ w) (h : w ≤ left) : Room (left - w) := by unfold Room at *; omega
theorem room_sub {left : Int} {n : Nat} (hl : Room left) (hn : n ≤ maxLen) : wrap64 (left - (n : Int)) = left - n := by
  unfold Room at hl; exact w64 (by unfold maxLen at hn; omega) (by omega)
theorem szOut_add {left v w : Int} (hv : 0 ≤ v) (hw : 0 ≤ w) (h : v ≤ left) : szOut (left - v) w = szOut left (v + w) := by
  unfold szOut; by_cases h1 : w ≤ left - v
  · rw [if_pos h1, if_pos (by omega)]; omega
  · rw [if_neg h1, if_neg (by omega)]
/-- A size function's law. -/
def Sz (g : Nat → Int → Option Int) (w : Int) : Prop := 0 ≤ w ∧ ∀ left, Room left → Ev (fun k => g k left) (szOut left w)
/-- What is subtracted at once, and the rest. -/
theorem sz_cut {left : Int} {n : Nat} {w : Int} {f : Nat → Option Int} (hl : Room left) (hn : n ≤ maxLen) (hw : 0 ≤ w)
    (h : (n : Int) ≤ left → Room (left - n) → Ev f (szOut (left - n) w)) : Ev (fun k => if wrap64 (left - (n : Int)) < 0 then some (-1) else f k) (szOut left (n + w)) := by
  rw [room_sub hl hn]
  by_cases h0 : left - (n : Int) < 0
  · rw [szOut_neg (by omega)]; exact ev_pos h0 (Ev.now _)
  · refine ev_neg h0 ?_; rw [← szOut_add (by omega) hw (by omega)]; exact h (by omega) (room_le hl (by omega) (by omega))
theorem sz_last {left : Int} {n : Nat} (hl : Room left) (hn : n ≤ maxLen) : Ev (fun _ => if wrap64 (left - (n : Int)) < 0 then some (-1) else some (wrap64 (left - (n : Int)))) (szOut left n) := by
  rw [room_sub hl hn]
  by_cases h0 : left - (n : Int) < 0
  · rw [szOut_neg (by omega)]; exact ev_pos h0 (Ev.now _)
  · refine ev_neg h0 ?_; rw [szOut_pos (by omega)]; exact Ev.now _
/-- What a function subtracts, and the rest. -/
theorem sz_call {left v w : Int} {g : Nat → Int → Option Int} {f : Nat → Int → Option Int} (hg : Sz g v) (hl : Room left) (hw : 0 ≤ w)
    (h : v ≤ left → Room (left - v) → Ev (fun k => f k (left - v)) (szOut (left - v) w)) : Ev (fun k => (g k left).bind fun t => if t < 0 then some (-1) else f k t) (szOut left (v + w)) := by
  refine Ev.bind (hg.2 left hl) ?_
  by_cases h0 : v ≤ left
  · rw [szOut_pos h0]; refine ev_neg (by omega) ?_; rw [← szOut_add hg.1 hw h0]; exact h h0 (room_le hl hg.1 h0)
  · rw [szOut_neg (by omega), szOut_neg (by omega)]; exact ev_pos (by omega) (Ev.now _)
theorem sz_end {left : Int} : Ev (fun _ => some left) (szOut left 0) ∨ left < 0 := by
  by_cases h : left < 0
  · exact Or.inr h
  · left; rw [szOut_pos (by omega)]; simpa using Ev.now left
theorem sz_done {left : Int} (h : Room left) : Ev (fun _ => some left) (szOut left 0) := by
  rw [szOut_pos (by unfold Room at h; omega)]; simpa using Ev.now left
/-- The sizes of a list's members, summed. -/
def sumW {α : Type} (w : α → Int) : List α → Int
  | [] => 0
  | x :: l => w x + sumW w l
theorem sumW_nonneg {α : Type} {w : α → Int} {l : List α} (h : ∀ x ∈ l, 0 ≤ w x) : 0 ≤ sumW w l := by
  induction l with
  | nil => simp [sumW]
  | cons x l ih => have := h x (by simp); have := ih fun y hy => h y (by simp [hy]); simp only [sumW]; omega
theorem sumW_mem {α : Type} {w : α → Int} {l : List α} (h : ∀ x ∈ l, 0 ≤ w x) {x : α} (hx : x ∈ l) : w x ≤ sumW w l := by
  induction l with
  | nil => simp at hx
  | cons y l ih =>
    have h1 := h y (by simp); have h2 : 0 ≤ sumW w l := sumW_nonneg fun z hz => h z (by simp [hz])
    simp only [sumW]
    rcases List.mem_cons.1 hx with rfl | hx
    · omega
    · have := ih (fun z hz => h z (by simp [hz])) hx; omega
/-- A list's weight: its length and its members' weights. -/
def wList {α : Type} (w : α → Int) (l : List α) : Int := l.length + sumW w l
theorem wList_nonneg {α : Type} {w : α → Int} {l : List α} (h : ∀ x ∈ l, 0 ≤ w x) : 0 ≤ wList w l := by
  have := sumW_nonneg h; unfold wList; omega
theorem wList_len {α : Type} {w : α → Int} {l : List α} (h : ∀ x ∈ l, 0 ≤ w x) : (l.length : Int) ≤ wList w l := by
  have := sumW_nonneg h; unfold wList; omega
theorem wList_mem {α : Type} {w : α → Int} {l : List α} (h : ∀ x ∈ l, 0 ≤ w x) {x : α} (hx : x ∈ l) : w x ≤ wList w l := by
  have := sumW_mem h hx; unfold wList; omega
theorem getD_mem {α : Type} (l : List α) (i : Nat) (z : α) (h : i < l.length) : l.getD i z ∈ l := by
  rw [List.getD_eq_getElem?_getD, List.getElem?_eq_getElem h]; exact List.getElem_mem h
theorem drop_getD {α : Type} (l : List α) (i : Nat) (z : α) (h : i < l.length) : l.drop i = l.getD i z :: l.drop (i + 1) := by
  rw [List.getD_eq_getElem?_getD, List.getElem?_eq_getElem h]; exact List.drop_eq_getElem_cons h
/-- The loop of a size function over a list. -/
theorem sz_loop {α : Type} (l : List α) (z : α) (w : α → Int) (g : Nat → Int → Int → Option Int) (s : Nat → α → Int → Option Int) (hlen : l.length ≤ maxLen)
    (hin : ∀ k (i : Nat) st, i < l.length → g (k + 1) (i : Int) st = (s k (l.getD i z) st).bind fun t => if t < 0 then some (-1) else g k (wrap64 ((i : Int) + 1)) t)
    (hend : ∀ k st, g (k + 1) (l.length : Int) st = some st)
    (hs : ∀ x ∈ l, Sz (fun k left => s k x left) (w x)) :
    ∀ left, Room left → Ev (fun k => g k 0 left) (szOut left (sumW w l)) := by
  have hw : ∀ x ∈ l, 0 ≤ w x := fun x hx => (hs x hx).1
  have key : ∀ d i st, i + d = l.length → Room st → Ev (fun k => g k (i : Int) st) (szOut st (sumW w (l.drop i))) := by
    intro d
    induction d with
    | zero =>
      intro i st hi hr
      have e : i = l.length := by omega
      subst e
      rw [List.drop_length]
      exact Ev.step (by intro k; rw [hend]) (sz_done hr)
    | succ d ih =>
      intro i st hi hr
      have h : i < l.length := by omega
      rw [drop_getD l i z h]
      refine Ev.step (fun k => hin k i st h) ?_
      refine sz_call (g := fun k left => s k (l.getD i z) left) (hs _ (getD_mem l i z h)) hr (sumW_nonneg fun x hx => hw x (List.mem_of_mem_drop hx)) fun _ hr' => ?_
      rw [inc i (by unfold maxLen at hlen; omega)]
      exact ih (i + 1) _ (by omega) hr'
  intro left hl
  exact key l.length 0 left (by omega) hl

/-- The loop of a copy: each member's picture, one place after the other. -/
theorem to_loop {α β : Type} (l : List α) (z : α) (y : β) (f : α → β) (g : Nat → Int → List β → Option (List β)) (hlen : l.length ≤ maxLen)
    (hin : ∀ k (i : Nat) st, i < l.length → st.length = l.length → g (k + 1) (i : Int) st = g k (wrap64 ((i : Int) + 1)) (st.set i (f (l.getD i z))))
    (hend : ∀ k st, g (k + 1) (l.length : Int) st = some st) :
    Ev (fun k => g k 0 (List.replicate l.length y)) (l.map f) := by
  have key : ∀ d i st, i + d = l.length → st.length = l.length → Ev (fun k => g k (i : Int) st) (st.take i ++ (l.drop i).map f) := by
    intro d
    induction d with
    | zero =>
      intro i st hi hs
      have e : i = l.length := by omega
      subst e
      rw [List.drop_length]
      exact Ev.step (by intro k; rw [hend]) (ev_use (Ev.now _) (by rw [← hs, List.take_length]; simp))
    | succ d ih =>
      intro i st hi hs
      have h : i < l.length := by omega
      rw [drop_getD l i z h]
      refine Ev.step (fun k => hin k i st h hs) ?_
      rw [inc i (by unfold maxLen at hlen; omega)]
      refine ev_use (ih (i + 1) _ (by omega) (by simpa using hs)) ?_
      have h2 : i < st.length := by omega
      rw [List.take_succ_eq_append_getElem (by simpa using h2)]
      simp [List.take_set_of_le]
  have := key l.length 0 (List.replicate l.length y) (by omega) (by simp)
  simpa using this

/-- The loop of a copy, where a member's picture is made by a call. -/
theorem to_loop2 {α β : Type} (l : List α) (z : α) (y : β) (f : α → β) (g : Nat → Int → List β → Option (List β)) (p : Nat → α → Option β) (hlen : l.length ≤ maxLen)
    (hin : ∀ k (i : Nat) st, i < l.length → st.length = l.length → g (k + 1) (i : Int) st = (p k (l.getD i z)).bind fun b => g k (wrap64 ((i : Int) + 1)) (st.set i b))
    (hend : ∀ k st, g (k + 1) (l.length : Int) st = some st)
    (hp : ∀ x ∈ l, Ev (fun k => p k x) (f x)) :
    Ev (fun k => g k 0 (List.replicate l.length y)) (l.map f) := by
  have key : ∀ d i st, i + d = l.length → st.length = l.length → Ev (fun k => g k (i : Int) st) (st.take i ++ (l.drop i).map f) := by
    intro d
    induction d with
    | zero =>
      intro i st hi hs
      have e : i = l.length := by omega
      subst e
      rw [List.drop_length]
      exact Ev.step (by intro k; rw [hend]) (ev_use (Ev.now _) (by rw [← hs, List.take_length]; simp))
    | succ d ih =>
      intro i st hi hs
      have h : i < l.length := by omega
      rw [drop_getD l i z h]
      refine Ev.step (fun k => hin k i st h hs) ?_
      refine Ev.bind (hp _ (getD_mem l i z h)) ?_
      rw [inc i (by unfold maxLen at hlen; omega)]
      refine ev_use (ih (i + 1) _ (by omega) (by simpa using hs)) ?_
      have h2 : i < st.length := by omega
      rw [List.take_succ_eq_append_getElem (by simpa using h2)]
      simp [List.take_set_of_le]
  have := key l.length 0 (List.replicate l.length y) (by omega) (by simp)
  simpa using this

/-- The loop of an equality of a list with itself. -/
theorem eq_loop {α : Type} (l : List α) (z : α) (g : Nat → Int → Option Bool) (e : Nat → α → Option Bool) (hlen : l.length ≤ maxLen)
    (hin : ∀ k (i : Nat), i < l.length → g (k + 1) (i : Int) = (e k (l.getD i z)).bind fun t => if t = true then g k (wrap64 ((i : Int) + 1)) else some false)
    (hend : ∀ k, g (k + 1) (l.length : Int) = some true)
    (he : ∀ x ∈ l, Ev (fun k => e k x) true) : Ev (fun k => g k 0) true := by
  have key : ∀ d i, i + d = l.length → Ev (fun k => g k (i : Int)) true := by
    intro d
    induction d with
    | zero =>
      intro i hi
      have e : i = l.length := by omega
      subst e
      exact Ev.step (by intro k; rw [hend]) (Ev.now true)
    | succ d ih =>
      intro i hi
      have h : i < l.length := by omega
      refine Ev.step (fun k => hin k i h) ?_
      refine Ev.bind (he _ (getD_mem l i z h)) ?_
      refine ev_pos rfl ?_
      rw [inc i (by unfold maxLen at hlen; omega)]
      exact ih (i + 1) (by omega)
  exact key l.length 0 (by omega)

theorem sz_cut' {left : Int} {n : Nat} {w : Int} {f : Nat → Option Int} (hl : Room left) (hw : 0 ≤ w)
    (h : (n : Int) ≤ left → Room (left - n) → Ev f (szOut (left - n) w)) : Ev (fun k => if left - (n : Int) < 0 then some (-1) else f k) (szOut left (n + w)) := by
  by_cases h0 : left - (n : Int) < 0
  · rw [szOut_neg (by omega)]; exact ev_pos h0 (Ev.now _)
  · refine ev_neg h0 ?_; rw [← szOut_add (by omega) hw (by omega)]; exact h (by omega) (room_le hl (by omega) (by omega))
theorem room_all : Room 1048576 := by unfold Room; omega
/-- A law's first question: too big is true at once. -/
theorem law_sz {w : Int} {g : Nat → Int → Option Int} {f : Nat → Option Bool} (hg : Sz g w) (h : w ≤ 1048576 → Ev f true) : Ev (fun k => (g k 1048576).bind fun t => if t < 0 then some true else f k) true := by
  refine Ev.bind (hg.2 1048576 room_all) ?_
  by_cases h0 : w ≤ 1048576
  · rw [szOut_pos h0]; exact ev_neg (by omega) (h h0)
  · rw [szOut_neg (by omega)]; exact ev_pos (by omega) (Ev.now _)
/-- The weight of a list of strings. -/
def w_StringS (l : List ByteArray) : Int := wList (fun s => (s.size : Int)) l
theorem w_StringS_nonneg (l : List ByteArray) : 0 ≤ w_StringS l := wList_nonneg fun x _ => by omega
theorem w_StringS_len (l : List ByteArray) : (l.length : Int) ≤ w_StringS l := wList_len fun x _ => by omega
theorem w_StringS_mem {l : List ByteArray} {x : ByteArray} (hx : x ∈ l) : (x.size : Int) ≤ w_StringS l := wList_mem (w := fun s : ByteArray => (s.size : Int)) (fun x _ => by omega) hx

end Go.Proofs.YtgfaphlpkjikkaaDoor.U
