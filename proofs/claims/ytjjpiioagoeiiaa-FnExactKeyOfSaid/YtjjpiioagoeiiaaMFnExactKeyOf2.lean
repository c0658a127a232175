/- YtjjpiioagoeiiaaMFnExactKeyOf2: the law's texts, part 3 of 3, merged by wip/tools/merge.py. -/
import Derived.Test.YtjjpiioagoeiiaaMFnExactKeyOf1
import Derived.Test.YtjjpiioagoeiiaaWWords
import Derived.Deep.Slices
import Derived.Deep.Fields
import Derived.ChangeSame
import Derived.ChangeArms
import Derived.Test.YtjjpiioagoeiiaaRows
import Derived.WalkKit
import Derived.ProofKit
import Derived.OpenShut
import Derived.ShutString
import Derived.ChangeOld
import Derived.Below
import Derived.SizedLaws
import Derived.Carry
section
namespace Go.Proofs.Ytjjpiioagoeiiaa.U
open Go Go.RowKit Go.Proofs.YtjjpiioagoeiiaaW.PrintWords
set_option linter.unusedVariables false
set_option linter.unusedSimpArgs false

/-- What a size function answers: what is left, or -1. -/
def szOut (left w : Int) : Int := if w ≤ left then left - w else -1
theorem szOut_neg {left w : Int} (h : left < w) : szOut left w = -1 := by unfold szOut; rw [if_neg (by omega)]
theorem szOut_pos {left w : Int} (h : w ≤ left) : szOut left w = left - w := by unfold szOut; rw [if_pos h]
/-- A room that is left over. -/
def Room (x : Int) : Prop := 0 ≤ x ∧ x ≤ 1048576
theorem room_le {left w : Int} (hl : Room left) (hw : 0 ≤ w) (h : w ≤ left) : Room (left - w) := by unfold Room at *; omega
theorem room_sub {left : Int} {n : Nat} (hl : Room left) (hn : n ≤ maxLen) : wrap64 (left - (n : Int)) = left - n := by
  unfold Room at hl; exact w64 (by unfold maxLen at hn; omega) (by omega)
theorem szOut_add {left v w : Int} (hv : 0 ≤ v) (hw : 0 ≤ w) (h : v ≤ left) : szOut (left - v) w = szOut left (v + w) := by
  unfold szOut; by_cases h1 : w ≤ left - v
  · rw [if_pos h1, if_pos (by omega)]; omega
  · rw [if_neg h1, if_neg (by omega)]
/-- A size function's law. -/
def Sz (g : Nat → Int → Option Int) (w : Int) : Prop := 0 ≤ w ∧ ∀ left, Room left → Ev (fun k => g k left) (szOut left w)
/-- What is subtracted at once, and the rest. -/
theorem sz_cut {left : Int} {n : Nat} {w : Int} {f : Nat → Option Int} (hl : Room left) (hn : n ≤ maxLen) (hw : 0 ≤ w)
    (h : (n : Int) ≤ left → Room (left - n) → Ev f (szOut (left - n) w)) : Ev (fun k => if wrap64 (left - (n : Int)) < 0 then some (-1) else f k) (szOut left (n + w)) := by
  rw [room_sub hl hn]
  by_cases h0 : left - (n : Int) < 0
  · rw [szOut_neg (by omega)]; exact ev_pos h0 (Ev.now _)
  · refine ev_neg h0 ?_; rw [← szOut_add (by omega) hw (by omega)]; exact h (by omega) (room_le hl (by omega) (by omega))
theorem sz_last {left : Int} {n : Nat} (hl : Room left) (hn : n ≤ maxLen) : Ev (fun _ => if wrap64 (left - (n : Int)) < 0 then some (-1) else some (wrap64 (left - (n : Int)))) (szOut left n) := by
  rw [room_sub hl hn]
  by_cases h0 : left - (n : Int) < 0
  · rw [szOut_neg (by omega)]; exact ev_pos h0 (Ev.now _)
  · refine ev_neg h0 ?_; rw [szOut_pos (by omega)]; exact Ev.now _
/-- What a function subtracts, and the rest. -/
theorem sz_call {left v w : Int} {g : Nat → Int → Option Int} {f : Nat → Int → Option Int} (hg : Sz g v) (hl : Room left) (hw : 0 ≤ w)
    (h : v ≤ left → Room (left - v) → Ev (fun k => f k (left - v)) (szOut (left - v) w)) : Ev (fun k => (g k left).bind fun t => if t < 0 then some (-1) else f k t) (szOut left (v + w)) := by
  refine Ev.bind (hg.2 left hl) ?_
  by_cases h0 : v ≤ left
  · rw [szOut_pos h0]; refine ev_neg (by omega) ?_; rw [← szOut_add hg.1 hw h0]; exact h h0 (room_le hl hg.1 h0)
  · rw [szOut_neg (by omega), szOut_neg (by omega)]; exact ev_pos (by omega) (Ev.now _)
theorem sz_end {left : Int} : Ev (fun _ => some left) (szOut left 0) ∨ left < 0 := by
  by_cases h : left < 0
  · exact Or.inr h
  · left; rw [szOut_pos (by omega)]; simpa using Ev.now left
theorem sz_done {left : Int} (h : Room left) : Ev (fun _ => some left) (szOut left 0) := by
  rw [szOut_pos (by unfold Room at h; omega)]; simpa using Ev.now left
/-- The sizes of a list's members, summed. -/
def sumW {α : Type} (w : α → Int) : List α → Int
  | [] => 0
  | x :: l => w x + sumW w l
theorem sumW_nonneg {α : Type} {w : α → Int} {l : List α} (h : ∀ x ∈ l, 0 ≤ w x) : 0 ≤ sumW w l := by
  induction l with
  | nil => simp [sumW]
  | cons x l ih => have := h x (by simp); have := ih fun y hy => h y (by simp [hy]); simp only [sumW]; omega
theorem sumW_mem {α : Type} {w : α → Int} {l : List α} (h : ∀ x ∈ l, 0 ≤ w x) {x : α} (hx : x ∈ l) : w x ≤ sumW w l := by
  induction l with
  | nil => simp at hx
  | cons y l ih =>
    have h1 := h y (by simp); have h2 : 0 ≤ sumW w l := sumW_nonneg fun z hz => h z (by simp [hz])
    simp only [sumW]
    rcases List.mem_cons.1 hx with rfl | hx
    · omega
    · have := ih (fun z hz => h z (by simp [hz])) hx; omega
/-- A list's weight: its length and its members' weights. -/
def wList {α : Type} (w : α → Int) (l : List α) : Int := l.length + sumW w l
theorem wList_nonneg {α : Type} {w : α → Int} {l : List α} (h : ∀ x ∈ l, 0 ≤ w x) : 0 ≤ wList w l := by
  have := sumW_nonneg h; unfold wList; omega
theorem wList_len {α : Type} {w : α → Int} {l : List α} (h : ∀ x ∈ l, 0 ≤ w x) : (l.length : Int) ≤ wList w l := by
  have := sumW_nonneg h; unfold wList; omega
theorem wList_mem {α : Type} {w : α → Int} {l : List α} (h : ∀ x ∈ l, 0 ≤ w x) {x : α} (hx : x ∈ l) : w x ≤ wList w l := by
  have := sumW_mem h hx; unfold wList; omega
theorem getD_mem {α : Type} (l : List α) (i : Nat) (z : α) (h : i < l.length) : l.getD i z ∈ l := by
  rw [List.getD_eq_getElem?_getD, List.getElem?_eq_getElem h]; exact List.getElem_mem h
theorem drop_getD {α : Type} (l : List α) (i : Nat) (z : α) (h : i < l.length) : l.drop i = l.getD i z :: l.drop (i + 1) := by
  rw [List.getD_eq_getElem?_getD, List.getElem?_eq_getElem h]; exact List.drop_eq_getElem_cons h
/-- The loop of a size function over a list. -/
theorem sz_loop {α : Type} (l : List α) (z : α) (w : α → Int) (g : Nat → Int → Int → Option Int) (s : Nat → α → Int → Option Int) (hlen : l.length ≤ maxLen)
    (hin : ∀ k (i : Nat) st, i < l.length → g (k + 1) (i : Int) st = (s k (l.getD i z) st).bind fun t => if t < 0 then some (-1) else g k (wrap64 ((i : Int) + 1)) t)
    (hend : ∀ k st, g (k + 1) (l.length : Int) st = some st)
    (hs : ∀ x ∈ l, Sz (fun k left => s k x left) (w x)) :
    ∀ left, Room left → Ev (fun k => g k 0 left) (szOut left (sumW w l)) := by
  have hw : ∀ x ∈ l, 0 ≤ w x := fun x hx => (hs x hx).1
  have key : ∀ d i st, i + d = l.length → Room st → Ev (fun k => g k (i : Int) st) (szOut st (sumW w (l.drop i))) := by
    intro d
    induction d with
    | zero =>
      intro i st hi hr
      have e : i = l.length := by omega
      subst e
      rw [List.drop_length]
      exact Ev.step (by intro k; rw [hend]) (sz_done hr)
    | succ d ih =>
      intro i st hi hr
      have h : i < l.length := by omega
      rw [drop_getD l i z h]
      refine Ev.step (fun k => hin k i st h) ?_
      refine sz_call (g := fun k left => s k (l.getD i z) left) (hs _ (getD_mem l i z h)) hr (sumW_nonneg fun x hx => hw x (List.mem_of_mem_drop hx)) fun _ hr' => ?_
      rw [inc i (by unfold maxLen at hlen; omega)]
      exact ih (i + 1) _ (by omega) hr'
  intro left hl
  exact key l.length 0 left (by omega) hl

/-- The loop of a copy: each member's picture, one place after the other. -/
theorem to_loop {α β : Type} (l : List α) (z : α) (y : β) (f : α → β) (g : Nat → Int → List β → Option (List β)) (hlen : l.length ≤ maxLen)
    (hin : ∀ k (i : Nat) st, i < l.length → st.length = l.length → g (k + 1) (i : Int) st = g k (wrap64 ((i : Int) + 1)) (st.set i (f (l.getD i z))))
    (hend : ∀ k st, g (k + 1) (l.length : Int) st = some st) :
    Ev (fun k => g k 0 (List.replicate l.length y)) (l.map f) := by
  have key : ∀ d i st, i + d = l.length → st.length = l.length → Ev (fun k => g k (i : Int) st) (st.take i ++ (l.drop i).map f) := by
    intro d
    induction d with
    | zero =>
      intro i st hi hs
      have e : i = l.length := by omega
      subst e
      rw [List.drop_length]
      exact Ev.step (by intro k; rw [hend]) (ev_use (Ev.now _) (by rw [← hs, List.take_length]; simp))
    | succ d ih =>
      intro i st hi hs
      have h : i < l.length := by omega
      rw [drop_getD l i z h]
      refine Ev.step (fun k => hin k i st h hs) ?_
      rw [inc i (by unfold maxLen at hlen; omega)]
      refine ev_use (ih (i + 1) _ (by omega) (by simpa using hs)) ?_
      have h2 : i < st.length := by omega
      rw [List.take_succ_eq_append_getElem (by simpa using h2)]
      simp [List.take_set_of_le]
  have := key l.length 0 (List.replicate l.length y) (by omega) (by simp)
  simpa using this

/-- The loop of a copy, where a member's picture is made by a call. -/
theorem to_loop2 {α β : Type} (l : List α) (z : α) (y : β) (f : α → β) (g : Nat → Int → List β → Option (List β)) (p : Nat → α → Option β) (hlen : l.length ≤ maxLen)
    (hin : ∀ k (i : Nat) st, i < l.length → st.length = l.length → g (k + 1) (i : Int) st = (p k (l.getD i z)).bind fun b => g k (wrap64 ((i : Int) + 1)) (st.set i b))
    (hend : ∀ k st, g (k + 1) (l.length : Int) st = some st)
    (hp : ∀ x ∈ l, Ev (fun k => p k x) (f x)) :
    Ev (fun k => g k 0 (List.replicate l.length y)) (l.map f) := by
  have key : ∀ d i st, i + d = l.length → st.length = l.length → Ev (fun k => g k (i : Int) st) (st.take i ++ (l.drop i).map f) := by
    intro d
    induction d with
    | zero =>
      intro i st hi hs
      have e : i = l.length := by omega
      subst e
      rw [List.drop_length]
      exact Ev.step (by intro k; rw [hend]) (ev_use (Ev.now _) (by rw [← hs, List.take_length]; simp))
    | succ d ih =>
      intro i st hi hs
      have h : i < l.length := by omega
      rw [drop_getD l i z h]
      refine Ev.step (fun k => hin k i st h hs) ?_
      refine Ev.bind (hp _ (getD_mem l i z h)) ?_
      rw [inc i (by unfold maxLen at hlen; omega)]
      refine ev_use (ih (i + 1) _ (by omega) (by simpa using hs)) ?_
      have h2 : i < st.length := by omega
      rw [List.take_succ_eq_append_getElem (by simpa using h2)]
      simp [List.take_set_of_le]
  have := key l.length 0 (List.replicate l.length y) (by omega) (by simp)
  simpa using this

/-- The loop of an equality of a list with itself. -/
theorem eq_loop {α : Type} (l : List α) (z : α) (g : Nat → Int → Option Bool) (e : Nat → α → Option Bool) (hlen : l.length ≤ maxLen)
    (hin : ∀ k (i : Nat), i < l.length → g (k + 1) (i : Int) = (e k (l.getD i z)).bind fun t => if t = true then g k (wrap64 ((i : Int) + 1)) else some false)
    (hend : ∀ k, g (k + 1) (l.length : Int) = some true)
    (he : ∀ x ∈ l, Ev (fun k => e k x) true) : Ev (fun k => g k 0) true := by
  have key : ∀ d i, i + d = l.length → Ev (fun k => g k (i : Int)) true := by
    intro d
    induction d with
    | zero =>
      intro i hi
      have e : i = l.length := by omega
      subst e
      exact Ev.step (by intro k; rw [hend]) (Ev.now true)
    | succ d ih =>
      intro i hi
      have h : i < l.length := by omega
      refine Ev.step (fun k => hin k i h) ?_
      refine Ev.bind (he _ (getD_mem l i z h)) ?_
      refine ev_pos rfl ?_
      rw [inc i (by unfold maxLen at hlen; omega)]
      exact ih (i + 1) (by omega)
  exact key l.length 0 (by omega)

theorem sz_cut' {left : Int} {n : Nat} {w : Int} {f : Nat → Option Int} (hl : Room left) (hw : 0 ≤ w)
    (h : (n : Int) ≤ left → Room (left - n) → Ev f (szOut (left - n) w)) : Ev (fun k => if left - (n : Int) < 0 then some (-1) else f k) (szOut left (n + w)) := by
  by_cases h0 : left - (n : Int) < 0
  · rw [szOut_neg (by omega)]; exact ev_pos h0 (Ev.now _)
  · refine ev_neg h0 ?_; rw [← szOut_add (by omega) hw (by omega)]; exact h (by omega) (room_le hl (by omega) (by omega))
theorem room_all : Room 1048576 := by unfold Room; omega
/-- A law's first question: too big is true at once. -/
theorem law_sz {w : Int} {g : Nat → Int → Option Int} {f : Nat → Option Bool} (hg : Sz g w) (h : w ≤ 1048576 → Ev f true) : Ev (fun k => (g k 1048576).bind fun t => if t < 0 then some true else f k) true := by
  refine Ev.bind (hg.2 1048576 room_all) ?_
  by_cases h0 : w ≤ 1048576
  · rw [szOut_pos h0]; exact ev_neg (by omega) (h h0)
  · rw [szOut_neg (by omega)]; exact ev_pos (by omega) (Ev.now _)
/-- The weight of a list of strings. -/
def w_StringS (l : List ByteArray) : Int := wList (fun s => (s.size : Int)) l
theorem w_StringS_nonneg (l : List ByteArray) : 0 ≤ w_StringS l := wList_nonneg fun x _ => by omega
theorem w_StringS_len (l : List ByteArray) : (l.length : Int) ≤ w_StringS l := wList_len fun x _ => by omega
theorem w_StringS_mem {l : List ByteArray} {x : ByteArray} (hx : x ∈ l) : (x.size : Int) ≤ w_StringS l := wList_mem (w := fun s : ByteArray => (s.size : Int)) (fun x _ => by omega) hx

end Go.Proofs.Ytjjpiioagoeiiaa.U
end

section
namespace Go.Proofs.Ytjjpiioagoeiiaa.U
open Go Go.RowKit Go.Proofs.YtjjpiioagoeiiaaW.PrintWords Go.Proofs.Ytjjpiioagoeiiaa.G
set_option linter.unusedVariables false
set_option maxRecDepth 100000
def w_Sum (f0 : ByteArray) (f1 : ByteArray) : Int := (f0.size : Int) + ((f1.size : Int) + (0))
theorem w_Sum_nonneg (f0 : ByteArray) (f1 : ByteArray) : 0 ≤ w_Sum f0 f1 := by
  unfold w_Sum
  omega

end Go.Proofs.Ytjjpiioagoeiiaa.U
end

section
namespace Go.Proofs.Ytjjpiioagoeiiaa.U
open Go Go.RowKit Go.Proofs.YtjjpiioagoeiiaaW.PrintWords Go.Proofs.Ytjjpiioagoeiiaa.G
set_option linter.unusedVariables false
set_option maxRecDepth 100000
def w_SumS (l : List S63) : Int := wList (fun x => w_Sum x.f0 x.f1) l
theorem w_SumS_nonneg (l : List S63) : 0 ≤ w_SumS l := wList_nonneg fun x _ => w_Sum_nonneg _ _
theorem w_SumS_len (l : List S63) : (l.length : Int) ≤ w_SumS l := wList_len fun x _ => w_Sum_nonneg _ _
theorem w_SumS_mem {l : List S63} {x : S63} (hx : x ∈ l) : w_Sum x.f0 x.f1 ≤ w_SumS l := wList_mem (w := fun x : S63 => w_Sum x.f0 x.f1) (fun x _ => w_Sum_nonneg _ _) hx

end Go.Proofs.Ytjjpiioagoeiiaa.U
end

section
namespace Go.Proofs.Ytjjpiioagoeiiaa.U
open Go Go.RowKit Go.Proofs.YtjjpiioagoeiiaaW.PrintWords Go.Proofs.Ytjjpiioagoeiiaa.G
set_option linter.unusedVariables false
set_option maxRecDepth 100000
def w_Pack (f0 : ByteArray) (f1 : ByteArray) (f2 : ByteArray) (f3 : List S63) (f4 : Bool) (f5 : List ByteArray) : Int := (f0.size : Int) + ((f1.size : Int) + ((f2.size : Int) + (w_SumS f3 + (w_StringS f5 + (0)))))
theorem w_Pack_nonneg (f0 : ByteArray) (f1 : ByteArray) (f2 : ByteArray) (f3 : List S63) (f4 : Bool) (f5 : List ByteArray) : 0 ≤ w_Pack f0 f1 f2 f3 f4 f5 := by
  unfold w_Pack
  have := w_SumS_nonneg f3
  have := w_StringS_nonneg f5
  omega

end Go.Proofs.Ytjjpiioagoeiiaa.U
end

section
namespace Go.Proofs.Ytjjpiioagoeiiaa.U
open Go Go.RowKit Go.Proofs.YtjjpiioagoeiiaaW.PrintWords Go.Proofs.Ytjjpiioagoeiiaa.G
set_option linter.unusedVariables false
set_option maxRecDepth 100000
theorem szSum_ok (f0 : ByteArray) (h0 : f0.size ≤ maxLen) (f1 : ByteArray) (h1 : f1.size ≤ maxLen) : Sz (fun k left => laws_szSum.f f0 f1 left) (w_Sum f0 f1) := by
  refine ⟨w_Sum_nonneg f0 f1, fun left hr => ?_⟩
  show Ev (fun k => laws_szSum.f f0 f1 left) _
  unfold laws_szSum.f w_Sum
  rw [room_sub hr h0]
  refine sz_cut' hr (by omega) fun hb hr => ?_
  rw [room_sub hr h1]
  refine sz_cut' hr (by omega) fun hb hr => ?_
  exact sz_done hr

end Go.Proofs.Ytjjpiioagoeiiaa.U
end

section
namespace Go.Proofs.Ytjjpiioagoeiiaa.U
open Go Go.RowKit Go.Proofs.YtjjpiioagoeiiaaW.PrintWords Go.Proofs.Ytjjpiioagoeiiaa.G
set_option linter.unusedVariables false
set_option maxRecDepth 100000
theorem szSumS_ok (l : List S63) (h : l.length ≤ maxLen ∧ ∀ x_ ∈ l, (x_.f0.size ≤ maxLen ∧ x_.f1.size ≤ maxLen)) : Sz (fun k left => laws_szSumS.f k l left) (w_SumS l) := by
  have hs : ∀ x ∈ l, Sz (fun k left => laws_szSum.f x.f0 x.f1 left) (w_Sum x.f0 x.f1) := fun x hx => by
    have hx' := h.2 x hx
    exact szSum_ok x.f0 hx'.1 x.f1 hx'.2
  refine ⟨w_SumS_nonneg l, fun left hr => ?_⟩
  show Ev (fun k => laws_szSumS.f k l left) _
  unfold laws_szSumS.f w_SumS wList
  rw [room_sub hr h.1]
  refine sz_cut' hr (sumW_nonneg fun x hx => (hs x hx).1) fun hb hr => ?_
  refine sz_loop l z63 (fun x => w_Sum x.f0 x.f1) (fun k i st => laws_szSumS.l0 k l st i) (fun k x left => laws_szSum.f x.f0 x.f1 left) h.1 ?_ ?_ hs _ hr
  · intro k i st hi
    show laws_szSumS.l0 (k + 1) l st (i : Int) = _
    rw [laws_szSumS.l0, if_pos (by omega), if_pos (by omega)]
    rfl
  · intro k st
    show laws_szSumS.l0 (k + 1) l st (l.length : Int) = _
    rw [laws_szSumS.l0, if_neg (by omega)]

end Go.Proofs.Ytjjpiioagoeiiaa.U
end

section
namespace Go.Proofs.Ytjjpiioagoeiiaa.U
open Go Go.RowKit Go.Proofs.YtjjpiioagoeiiaaW.PrintWords Go.Proofs.Ytjjpiioagoeiiaa.G
set_option linter.unusedVariables false
set_option maxRecDepth 100000
theorem szStringS_ok (l : List ByteArray) (h : l.length ≤ maxLen ∧ ∀ x_ ∈ l, x_.size ≤ maxLen) : Sz (fun k left => laws_szStringS.f k l left) (w_StringS l) := by
  have hs : ∀ x ∈ l, Sz (fun _ left => if wrap64 (left - (x.size : Int)) < 0 then some (-1) else some (wrap64 (left - (x.size : Int)))) (x.size : Int) := fun x hx => ⟨by omega, fun left hr => sz_last hr (h.2 x hx)⟩
  refine ⟨w_StringS_nonneg l, fun left hr => ?_⟩
  show Ev (fun k => laws_szStringS.f k l left) _
  unfold laws_szStringS.f w_StringS wList
  rw [room_sub hr h.1]
  refine sz_cut' hr (sumW_nonneg fun x hx => (hs x hx).1) fun hb hr => ?_
  refine sz_loop l ByteArray.empty (fun s => (s.size : Int)) (fun k i st => laws_szStringS.l0 k l st i) (fun _ x left => if wrap64 (left - (x.size : Int)) < 0 then some (-1) else some (wrap64 (left - (x.size : Int)))) h.1 ?_ ?_ hs _ hr
  · intro k i st hi
    show laws_szStringS.l0 (k + 1) l st (i : Int) = _
    rw [laws_szStringS.l0, if_pos (by omega), if_pos (by omega)]
    show (if wrap64 (st - ((l.getD i ByteArray.empty).size : Int)) < 0 then some (-1) else laws_szStringS.l0 k l (wrap64 (st - ((l.getD i ByteArray.empty).size : Int))) (wrap64 ((i : Int) + 1))) = _
    generalize wrap64 (st - ((l.getD i ByteArray.empty).size : Int)) = y
    by_cases hy : y < 0
    · simp only [if_pos hy]; rfl
    · simp only [if_neg hy]; show _ = (if y < 0 then _ else _); rw [if_neg hy]
  · intro k st
    show laws_szStringS.l0 (k + 1) l st (l.length : Int) = _
    rw [laws_szStringS.l0, if_neg (by omega)]

end Go.Proofs.Ytjjpiioagoeiiaa.U
end

section
namespace Go.Proofs.Ytjjpiioagoeiiaa.U
open Go Go.RowKit Go.Proofs.YtjjpiioagoeiiaaW.PrintWords Go.Proofs.Ytjjpiioagoeiiaa.G
set_option linter.unusedVariables false
set_option maxRecDepth 100000
theorem szPack_ok (f0 : ByteArray) (h0 : f0.size ≤ maxLen) (f1 : ByteArray) (h1 : f1.size ≤ maxLen) (f2 : ByteArray) (h2 : f2.size ≤ maxLen) (f3 : List S63) (h3 : (f3.length ≤ maxLen ∧ ∀ x_ ∈ f3, (x_.f0.size ≤ maxLen ∧ x_.f1.size ≤ maxLen))) (f4 : Bool)  (f5 : List ByteArray) (h5 : (f5.length ≤ maxLen ∧ ∀ x_ ∈ f5, x_.size ≤ maxLen)) : Sz (fun k left => laws_szPack.f k f0 f1 f2 f3 f4 f5 left) (w_Pack f0 f1 f2 f3 f4 f5) := by
  refine ⟨w_Pack_nonneg f0 f1 f2 f3 f4 f5, fun left hr => ?_⟩
  show Ev (fun k => laws_szPack.f k f0 f1 f2 f3 f4 f5 left) _
  unfold laws_szPack.f w_Pack
  have nf3 := w_SumS_nonneg f3
  have nf5 := w_StringS_nonneg f5
  rw [room_sub hr h0]
  refine sz_cut' hr (by omega) fun hb hr => ?_
  rw [room_sub hr h1]
  refine sz_cut' hr (by omega) fun hb hr => ?_
  rw [room_sub hr h2]
  refine sz_cut' hr (by omega) fun hb hr => ?_
  refine sz_call (g := fun k left => laws_szSumS.f k f3 left) (szSumS_ok f3 h3) hr (by omega) fun hb hr => ?_
  refine sz_call (g := fun k left => laws_szStringS.f k f5 left) (szStringS_ok f5 h5) hr (by omega) fun hb hr => ?_
  exact sz_done hr

end Go.Proofs.Ytjjpiioagoeiiaa.U
end

section
namespace Go.Proofs.Ytjjpiioagoeiiaa.U
open Go Go.RowKit Go.Proofs.YtjjpiioagoeiiaaW.PrintWords Go.Proofs.Ytjjpiioagoeiiaa.G
set_option linter.unusedVariables false
set_option maxRecDepth 100000
theorem toSum_ok (f0 : ByteArray) (h0 : f0.size ≤ maxLen) (f1 : ByteArray) (h1 : f1.size ≤ maxLen) (hw : w_Sum f0 f1 ≤ 1048576) : Ev (fun k => laws_toSum.f f0 f1) (f0, f1) := by
  unfold laws_toSum.f
  exact Ev.now _

end Go.Proofs.Ytjjpiioagoeiiaa.U
end

section
namespace Go.Proofs.Ytjjpiioagoeiiaa.U
open Go Go.RowKit Go.Proofs.YtjjpiioagoeiiaaW.PrintWords Go.Proofs.Ytjjpiioagoeiiaa.G
set_option linter.unusedVariables false
set_option maxRecDepth 100000
/-- The picture of the laws' struct. -/
def t_Sum (x : S63) : S64 := ⟨x.f0, x.f1⟩
theorem toSumS_ok (l : List S63) (h : l.length ≤ maxLen ∧ ∀ x_ ∈ l, (x_.f0.size ≤ maxLen ∧ x_.f1.size ≤ maxLen)) (hw : w_SumS l ≤ 1048576) : Ev (fun k => laws_toSumS.f k l) (l.map t_Sum) := by
  have hl := w_SumS_len l
  have e : ((l.length : Int)).toNat = l.length := Int.toNat_natCast _
  unfold laws_toSumS.f
  rw [e]
  refine ev_pos (by omega) (ev_pos (by omega) ?_)
  refine to_loop l z63 _ t_Sum (fun k i st => laws_toSumS.l0 k l st i) h.1 ?_ ?_
  · intro k i st hi hs
    show laws_toSumS.l0 (k + 1) l st (i : Int) = _
    rw [laws_toSumS.l0, if_pos (by omega), if_pos (by omega)]
    show (if (i : Int) < (st.length : Int) then _ else none) = _
    rw [if_pos (by omega)]
    rfl
  · intro k st
    show laws_toSumS.l0 (k + 1) l st (l.length : Int) = _
    rw [laws_toSumS.l0, if_neg (by omega)]

end Go.Proofs.Ytjjpiioagoeiiaa.U
end

section
namespace Go.Proofs.Ytjjpiioagoeiiaa.U
open Go Go.RowKit Go.Proofs.YtjjpiioagoeiiaaW.PrintWords Go.Proofs.Ytjjpiioagoeiiaa.G
set_option linter.unusedVariables false
set_option maxRecDepth 100000
theorem toStringS_ok (l : List ByteArray) (h : l.length ≤ maxLen ∧ ∀ x_ ∈ l, x_.size ≤ maxLen) (hw : w_StringS l ≤ 1048576) : Ev (fun k => laws_toStringS.f k l) (l) := by
  have hl := w_StringS_len l
  have e : ((l.length : Int)).toNat = l.length := Int.toNat_natCast _
  unfold laws_toStringS.f
  rw [e]
  refine ev_pos (by omega) (ev_pos (by omega) ?_)
  have := to_loop l ByteArray.empty (⟨#[]⟩ : ByteArray) id (fun k i st => laws_toStringS.l0 k l st i) h.1 ?_ ?_
  · rw [List.map_id] at this; exact this
  · intro k i st hi hs
    show laws_toStringS.l0 (k + 1) l st (i : Int) = _
    rw [laws_toStringS.l0, if_pos (by omega), if_pos (by omega), if_pos (by omega)]
    rfl
  · intro k st
    show laws_toStringS.l0 (k + 1) l st (l.length : Int) = _
    rw [laws_toStringS.l0, if_neg (by omega)]

end Go.Proofs.Ytjjpiioagoeiiaa.U
end

section
namespace Go.Proofs.Ytjjpiioagoeiiaa.U
open Go Go.RowKit Go.Proofs.YtjjpiioagoeiiaaW.PrintWords Go.Proofs.Ytjjpiioagoeiiaa.G
set_option linter.unusedVariables false
set_option maxRecDepth 100000
theorem toPack_ok (f0 : ByteArray) (h0 : f0.size ≤ maxLen) (f1 : ByteArray) (h1 : f1.size ≤ maxLen) (f2 : ByteArray) (h2 : f2.size ≤ maxLen) (f3 : List S63) (h3 : (f3.length ≤ maxLen ∧ ∀ x_ ∈ f3, (x_.f0.size ≤ maxLen ∧ x_.f1.size ≤ maxLen))) (f4 : Bool)  (f5 : List ByteArray) (h5 : (f5.length ≤ maxLen ∧ ∀ x_ ∈ f5, x_.size ≤ maxLen)) (hw : w_Pack f0 f1 f2 f3 f4 f5 ≤ 1048576) : Ev (fun k => laws_toPack.f k f0 f1 f2 f3 f4 f5) (f0, f1, f2, (f3.map t_Sum), f4, f5) := by
  unfold laws_toPack.f
  unfold w_Pack at hw
  have nf3 := w_SumS_nonneg f3
  have nf5 := w_StringS_nonneg f5
  refine Ev.bind (toSumS_ok f3 h3 (by omega)) ?_
  refine Ev.bind (toStringS_ok f5 h5 (by omega)) ?_
  exact Ev.now _

end Go.Proofs.Ytjjpiioagoeiiaa.U
end

section
namespace Go.Proofs.Ytjjpiioagoeiiaa.U
open Go Go.RowKit Go.Proofs.YtjjpiioagoeiiaaW.PrintWords Go.Proofs.Ytjjpiioagoeiiaa.G
set_option linter.unusedVariables false
set_option maxRecDepth 100000
theorem eqSum_ok (f0 : ByteArray)  (f1 : ByteArray)  : Ev (fun k => laws_eqSum.f f0 f1 f0 f1) true := by
  unfold laws_eqSum.f
  refine ev_pos rfl ?_
  refine ev_pos rfl ?_
  exact Ev.now _

end Go.Proofs.Ytjjpiioagoeiiaa.U
end

section
namespace Go.Proofs.Ytjjpiioagoeiiaa.U
open Go Go.RowKit Go.Proofs.YtjjpiioagoeiiaaW.PrintWords Go.Proofs.Ytjjpiioagoeiiaa.G
set_option linter.unusedVariables false
set_option maxRecDepth 100000
theorem eqSumS_ok (l : List S64) (h : l.length ≤ maxLen) : Ev (fun k => laws_eqSumS.f k l l) true := by
  unfold laws_eqSumS.f
  refine ev_pos rfl ?_
  refine eq_loop l z64 (fun k i => laws_eqSumS.l0 k l l i) (fun k x => laws_eqSum.f x.f0 x.f1 x.f0 x.f1) h ?_ ?_ (fun x hx => eqSum_ok x.f0 x.f1)
  · intro k i hi
    show laws_eqSumS.l0 (k + 1) l l (i : Int) = _
    rw [laws_eqSumS.l0, if_pos (by omega), if_pos (by omega), if_pos (by omega)]
    rfl
  · intro k
    show laws_eqSumS.l0 (k + 1) l l (l.length : Int) = _
    rw [laws_eqSumS.l0, if_neg (by omega)]

end Go.Proofs.Ytjjpiioagoeiiaa.U
end

section
namespace Go.Proofs.Ytjjpiioagoeiiaa.U
open Go Go.RowKit Go.Proofs.YtjjpiioagoeiiaaW.PrintWords Go.Proofs.Ytjjpiioagoeiiaa.G
set_option linter.unusedVariables false
set_option maxRecDepth 100000
theorem eqStringS_ok (l : List ByteArray) (h : l.length ≤ maxLen) : Ev (fun k => laws_eqStringS.f k l l) true := by
  unfold laws_eqStringS.f
  refine ev_pos rfl ?_
  refine eq_loop l ByteArray.empty (fun k i => laws_eqStringS.l0 k l l i) (fun _ x => some true) h ?_ ?_ (fun _ _ => Ev.now _)
  · intro k i hi
    show laws_eqStringS.l0 (k + 1) l l (i : Int) = _
    rw [laws_eqStringS.l0, if_pos (by omega), if_pos (by omega), if_pos (by omega), if_pos rfl]
    rfl
  · intro k
    show laws_eqStringS.l0 (k + 1) l l (l.length : Int) = _
    rw [laws_eqStringS.l0, if_neg (by omega)]

end Go.Proofs.Ytjjpiioagoeiiaa.U
end

section
namespace Go.Proofs.Ytjjpiioagoeiiaa.U
open Go Go.RowKit Go.Proofs.YtjjpiioagoeiiaaW.PrintWords Go.Proofs.Ytjjpiioagoeiiaa.G
set_option linter.unusedVariables false
set_option maxRecDepth 100000
theorem eqPack_ok (f0 : ByteArray)  (f1 : ByteArray)  (f2 : ByteArray)  (f3 : List S64) (h3 : f3.length ≤ maxLen) (f4 : Bool)  (f5 : List ByteArray) (h5 : f5.length ≤ maxLen) : Ev (fun k => laws_eqPack.f k f0 f1 f2 f3 f4 f5 f0 f1 f2 f3 f4 f5) true := by
  unfold laws_eqPack.f
  refine ev_pos rfl ?_
  refine ev_pos rfl ?_
  refine ev_pos rfl ?_
  refine Ev.bind (eqSumS_ok f3 h3) ?_
  refine ev_pos rfl ?_
  refine ev_neg (by simp) ?_
  refine Ev.bind (eqStringS_ok f5 h5) ?_
  refine ev_pos rfl ?_
  exact Ev.now _

end Go.Proofs.Ytjjpiioagoeiiaa.U
end

section
namespace Go.Proofs.Ytjjpiioagoeiiaa.Pure
open Go Go.RowKit Go.Proofs.YtjjpiioagoeiiaaW.PrintWords Go.Proofs.Ytjjpiioagoeiiaa.G Go.Proofs.Ytjjpiioagoeiiaa.U

theorem FnExactKeyOf : laws_FnExactKeyOf.Pure := by
  intro a0 a1 a2 l3 a4 l5 h0 h1 h2 h3 h5
  refine Ev.rounds (r := true) ?_
  unfold laws_FnExactKeyOf.f
  refine law_sz (szPack_ok a0 h0 a1 h1 a2 h2 l3 h3 a4 l5 h5) fun hw => ?_
  have ht := toPack_ok a0 h0 a1 h1 a2 h2 l3 h3 a4 l5 h5 hw
  unfold w_Pack at hw
  have n3 := w_SumS_nonneg l3
  have n5 := w_StringS_nonneg l5
  have c3 : (l3.map t_Sum).length ≤ maxLen := by rw [List.length_map]; exact h3.1
  have e1 : (a0 ++ (⟨#[64]⟩ : ByteArray)).size = a0.size + 1 := by rw [ByteArray.size_append]; rfl
  have hs : spec_KeyOf.f a0 a1 a2 (l3.map t_Sum) a4 l5 = some ((a0 ++ (⟨#[64]⟩ : ByteArray)) ++ a1) := by
    unfold spec_KeyOf.f; rw [if_pos (by omega), if_pos (by rw [e1]; omega)]
  have hi : impl_KeyOf.f a0 a1 a2 (l3.map t_Sum) a4 l5 = some ((a0 ++ (⟨#[64]⟩ : ByteArray)) ++ a1) := by
    unfold impl_KeyOf.f; rw [if_pos (by omega), if_pos (by rw [e1]; omega)]
  refine Ev.bind ht ?_
  refine ev_const hs ?_
  refine Ev.bind ht ?_
  refine ev_const hi ?_
  refine ev_pos rfl ?_
  refine Ev.bind ht ?_
  refine Ev.bind (eqPack_ok a0 a1 a2 (l3.map t_Sum) c3 a4 l5 h5.1) ?_
  exact ev_pos rfl (Ev.now _)

end Go.Proofs.Ytjjpiioagoeiiaa.Pure
end

section
namespace Go.Proofs.Ytjjpiioagoeiiaa.Op
open Go Go.ChangeShapes Go.WideShapes Go.Deep Go.RowKit Go.Proofs.YtjjpiioagoeiiaaW.PrintWords
set_option linter.unusedVariables false
set_option linter.unusedSimpArgs false

/-- Data of type t, read at a world, is a value of kind d of which z holds. -/
structure Opens (P : Program) {α : Type} (t : TypeId) (d : Kd α) (z : α → Prop) : Prop where
  sz : P.cellsOf t = d.sz
  open_ : ∀ {H : Type} {enc : TypeId × Value → H} {w : World} {fuel : Nat} {cs : List Value} {x : DataW H × List MemPlace}, DataW.trod enc P w 0 (fun _ => true) true fuel t cs = some x → ∃ a : α, d.K w a cs ∧ z a
section
variable {P : Program} {t : TypeId}
theorem opens_string (hc : P.cellsOf t = 1) (ht : P.underlying t = some .string) : Opens P t Kd.string (fun s => s.size ≤ maxLen) :=
  ⟨hc, fun h => by
    obtain ⟨s, rfl, _, hs⟩ := DataW.trod_string ht h
    exact ⟨s, rfl, hs⟩⟩
theorem opens_bool (hc : P.cellsOf t = 1) (ht : P.underlying t = some .bool) : Opens P t Kd.bool (fun _ => True) :=
  ⟨hc, fun h => by
    obtain ⟨b, rfl, _⟩ := DataW.trod_bool ht h
    exact ⟨b, rfl, trivial⟩⟩
theorem opens_int {k : IntKind} (hc : P.cellsOf t = 1) (ht : P.underlying t = some (.int k)) : Opens P t (Kd.int k) (fun n => (Lit.int k n).wf = true) :=
  ⟨hc, fun h => by
    obtain ⟨n, rfl, _, hn⟩ := DataW.trod_int ht h
    exact ⟨n, rfl, hn⟩⟩
theorem choose_list {α : Type} {n : Nat} {q : Nat → α → Prop} (h : ∀ i, i < n → ∃ a, q i a) : ∃ l : List α, l.length = n ∧ ∀ i a, l[i]? = some a → q i a := by
  induction n with
  | zero => exact ⟨[], rfl, fun i a e => by simp at e⟩
  | succ n ih =>
    obtain ⟨l, hl, hq⟩ := ih fun i hi => h i (by omega)
    obtain ⟨a, ha⟩ := h n (by omega)
    refine ⟨l ++ [a], by simp [hl], fun i b e => ?_⟩
    by_cases hi : i < l.length
    · rw [List.getElem?_append_left hi] at e; exact hq i b e
    · have hin : i = n := by
        have := (List.getElem?_eq_some_iff.1 e).1
        simp at this; omega
      subst hin
      rw [List.getElem?_append_right (by omega), hl, Nat.sub_self] at e
      cases e; exact ha
theorem opens_slice {α : Type} {e : TypeId} {d : Kd α} {z : α → Prop} (hc : P.cellsOf t = 1) (ht : P.underlying t = some (.slice e)) (h : Opens P e d z) : Opens P t (Kd.slice e d) (fun l => l.length ≤ maxLen ∧ ∀ a ∈ l, z a) :=
  ⟨hc, fun {H enc w fuel cs x} ho => by
    rcases open_slice ht ho with ⟨rfl, _⟩ | ⟨a, len, cap, m, n, D, Pl, rfl, hb, hl, hm, hmm, hx, hi⟩
    · refine ⟨[], ⟨none, 0, rfl, Nat.le_refl _, rfl, Nat.zero_le _, fun h0 => absurd h0 (Nat.lt_irrefl _)⟩, Nat.zero_le _, fun a ha => by cases ha⟩
    · have hmc : m = cap := by simpa using hmm
      subst hmc
      have hch : ∀ i, i < len → ∃ y : α, ∃ c : List Value, (c.length = d.sz ∧ d.K w y c ∧ ∀ j u, c[j]? = some u → w.cell? (a.add (i * d.sz + j)) = some u) ∧ z y := by
        intro i him
        obtain ⟨cs', hcs, htr⟩ := hi i (by omega)
        obtain ⟨y, hK, hz⟩ := h.open_ htr
        obtain ⟨_, hcl, hat⟩ := World.cells?_some hcs
        rw [h.sz] at hcl hat
        refine ⟨y, cs', ⟨hcl, hK, fun j u hu => ?_⟩, hz⟩
        have hj : j < d.sz := by have := (List.getElem?_eq_some_iff.1 hu).1; omega
        rw [← Go.Deep.add_add, hat j hj, hu]
      obtain ⟨l, hll, hq⟩ := choose_list hch
      subst hll
      refine ⟨l, ⟨some a, m, rfl, hl, rfl, by unfold maxLen at hm; omega, fun _ => ⟨a, rfl, fun j p hp => ?_⟩⟩, by omega, fun y hy => ?_⟩
      · obtain ⟨c, hc1, _⟩ := hq j p hp
        exact ⟨c, hc1⟩
      · obtain ⟨j, hj, rfl⟩ := List.getElem_of_mem hy
        obtain ⟨c, _, hz⟩ := hq j _ (List.getElem?_eq_getElem hj)
        exact hz⟩

/-- The fields of a struct from one on, whose first cell is number o. -/
structure OpensF (P : Program) {α : Type} (fs : List Field) (o : Nat) (d : Kd α) (z : α → Prop) : Prop where
  open_ : ∀ {H : Type} {enc : TypeId × Value → H} {w : World} {n : Nat} {cs : List Value} {xs : List (DataW H × List MemPlace)}, cs.length = o + d.sz → xs.length = fs.length →
    (∀ (i : Nat) (f : Field), fs[i]? = some f → DataW.trod enc P w 0 (fun _ => true) true n f.type ((cs.drop f.offset).take (P.cellsOf f.type)) = xs[i]?) → ∃ a : α, d.K w a (cs.drop o) ∧ z a
theorem opensF_one {α : Type} {f : Field} {o : Nat} {d : Kd α} {z : α → Prop} (ho : f.offset = o) (h : Opens P f.type d z) : OpensF P [f] o d z :=
  ⟨fun {H enc w n cs xs} hl hx hf => by
    have h0 := hf 0 f rfl
    have hxl : 0 < xs.length := by rw [hx]; simp
    rw [List.getElem?_eq_getElem hxl, ho, h.sz, List.take_of_length_le (by simp; omega)] at h0
    exact h.open_ h0⟩
theorem opensF_cons {α β : Type} {f : Field} {fs : List Field} {o : Nat} {d : Kd α} {d' : Kd β} {z : α → Prop} {z' : β → Prop} (ho : f.offset = o) (h : Opens P f.type d z) (h' : OpensF P fs (o + d.sz) d' z') :
    OpensF P (f :: fs) o (Kd.pair d d') (fun x => z x.1 ∧ z' x.2) :=
  ⟨fun {H enc w n cs xs} hl hx hf => by
    have h0 := hf 0 f rfl
    have hxl : 0 < xs.length := by rw [hx]; simp
    rw [List.getElem?_eq_getElem hxl, ho, h.sz] at h0
    obtain ⟨a, hK, hz⟩ := h.open_ h0
    have hl' : cs.length = o + (d.sz + d'.sz) := hl
    obtain ⟨b, hK', hz'⟩ := h'.open_ (cs := cs) (xs := xs.tail) (by omega) (by simp [hx]) (fun i g hg => by
      have := hf (i + 1) g (by simpa using hg)
      rw [this, List.getElem?_tail])
    refine ⟨(a, b), ⟨(cs.drop o).take d.sz, cs.drop (o + d.sz), ?_, hK, hK'⟩, hz, hz'⟩
    rw [← List.drop_drop, List.take_append_drop]⟩
theorem opens_struct {α β : Type} {fs : Array Field} {d : Kd α} {g : β → α} {z : α → Prop} (hc : P.cellsOf t = d.sz) (ht : P.underlying t = some (.struct fs)) (hg : ∀ a, ∃ b, g b = a) (h : OpensF P fs.toList 0 d z) :
    Opens P t (Kd.iso d g) (fun b => z (g b)) :=
  ⟨hc, fun {H enc w fuel cs x} ho => by
    obtain ⟨xs, n, hn, hx, hcl, hxl, hf⟩ := DataW.trod_struct ht ho
    obtain ⟨a, hK, hz⟩ := h.open_ (cs := cs) (xs := xs) (n := n) (by rw [hcl, hc, Nat.zero_add]) (by simpa using hxl) (fun i f hi => hf i f (by simpa using hi))
    obtain ⟨b, rfl⟩ := hg a
    rw [List.drop_zero] at hK
    exact ⟨b, hK, hz⟩⟩

/-- An argument that is a slice. -/
theorem arg_slice {α : Type} {e : TypeId} {d : Kd α} {z : List α → Prop} (h : Opens P t (Kd.slice e d) z) {H : Type} {enc : TypeId × Value → H} {w : World} {A : Option Addr} {len cap : Nat} {y : DataW H} {p : List MemPlace}
    (ho : DataW.Trod enc P w 0 (fun _ => true) true t (.slice A len cap) y p) : ∃ l : List α, len = l.length ∧ l.length ≤ cap ∧ Kd.C d w A l.length l ∧ z l := by
  obtain ⟨fuel, hf⟩ := ho
  obtain ⟨l, ⟨A', c, e1, hl, hC⟩, hz⟩ := h.open_ hf
  simp [Value.cells] at e1
  obtain ⟨rfl, rfl, rfl⟩ := e1
  exact ⟨l, rfl, hl, hC, hz⟩
/-- An argument that is a struct. -/
theorem arg_struct {α : Type} {d : Kd α} {z : α → Prop} (h : Opens P t d z) {H : Type} {enc : TypeId × Value → H} {w : World} {cs : Array Value} {y : DataW H} {p : List MemPlace}
    (ho : DataW.Trod enc P w 0 (fun _ => true) true t (.agg cs) y p) : ∃ a : α, d.K w a cs.toList ∧ z a := by
  obtain ⟨fuel, hf⟩ := ho
  exact h.open_ hf
end
end Go.Proofs.Ytjjpiioagoeiiaa.Op
end

section
namespace Go.Proofs.Ytjjpiioagoeiiaa.fnExactKeyOf
open Go.ChangeShapes Go.WideShapes Go.ChangeAt Go.RowKit Go.Proofs.Ytjjpiioagoeiiaa Go.Proofs.Ytjjpiioagoeiiaa.G Go.Proofs.YtjjpiioagoeiiaaW.PrintWords
open Go.ChangeMaps (open_string shut_string)
set_option linter.unusedVariables false
set_option linter.unusedSimpArgs false
theorem own : ownKnob Try.prog.godebug = none := by kernel_rfl
theorem laidOut : laidOutB Try.prog = true := by kernel_rfl
theorem opens63 : Op.Opens Try.prog 63 k63 (fun x_ => (x_.f0.size ≤ maxLen ∧ x_.f1.size ≤ maxLen)) := Op.opens_struct (g := (fun x : S63 => (x.f0, x.f1))) (by kernel_rfl) Try.underlying63 (fun a => ⟨⟨a.1, a.2⟩, rfl⟩) (Op.opensF_cons rfl (Op.opens_string (by kernel_rfl) Try.underlying9) (Op.opensF_one rfl (Op.opens_string (by kernel_rfl) Try.underlying9)))
theorem opensArg0 : Op.Opens Try.prog 32 (Kd.iso (Kd.pair Kd.string (Kd.pair Kd.string (Kd.pair Kd.string (Kd.pair (Kd.slice 63 k63) (Kd.pair Kd.bool (Kd.slice 9 Kd.string)))))) id) (fun y_ : ByteArray × ByteArray × ByteArray × List (S63) × Bool × List ByteArray => (y_.1.size ≤ maxLen ∧ (y_.2.1.size ≤ maxLen ∧ (y_.2.2.1.size ≤ maxLen ∧ ((y_.2.2.2.1.length ≤ maxLen ∧ ∀ x_ ∈ y_.2.2.2.1, (x_.f0.size ≤ maxLen ∧ x_.f1.size ≤ maxLen)) ∧ (True ∧ (y_.2.2.2.2.2.length ≤ maxLen ∧ ∀ x_ ∈ y_.2.2.2.2.2, x_.size ≤ maxLen))))))) := Op.opens_struct (g := id) (by kernel_rfl) Try.underlying32 (fun a => ⟨a, rfl⟩) (Op.opensF_cons rfl (Op.opens_string (by kernel_rfl) Try.underlying9) (Op.opensF_cons rfl (Op.opens_string (by kernel_rfl) Try.underlying9) (Op.opensF_cons rfl (Op.opens_string (by kernel_rfl) Try.underlying9) (Op.opensF_cons rfl (Op.opens_slice (by kernel_rfl) Try.underlying29 opens63) (Op.opensF_cons rfl (Op.opens_bool (by kernel_rfl) Try.underlying4) (Op.opensF_one rfl (Op.opens_slice (by kernel_rfl) Try.underlying30 (Op.opens_string (by kernel_rfl) Try.underlying9))))))))
set_option maxRecDepth 100000 in
theorem contract (H : Type) (enc : TypeId × Value → H) (W : World) (base : Nat) (args : Array Value) (ds gs : List (DataW H)) (before : List MemPlace)
    (hval : ∀ (j : Nat) t v, Try.f10.params[j]? = some t → args[j]? = some v → Value.okWide Try.prog W .any base t v)
    (hW : DataW.Whole enc Try.prog Try.f10.params.toList Rows.fnExactKeyOfSpec.vars false W args.toList ds gs before) :
    Calls Try.prog 10 args W fun e W' => ∃ v, e = .returned v ∧ Rows.fnExactKeyOfSpec.post enc Try.prog Try.f10 false true false false W args v W' := by
  have hW' := hW
  obtain ⟨p, q, hA0, hV, rfl, hfz, hnd⟩ := hW
  have hA : DataW.TrodAll enc Try.prog W 0 (fun _ => true) true Try.f10.params.toList args.toList ds p := hA0
  rw [Try.params10] at hA hval
  obtain ⟨v0, vs0, d0, ds0, p0, q0, hargs, rfl, rfl, h0, r0⟩ := trodAll_cons hA
  obtain ⟨rfl, rfl, rfl⟩ := trodAll_nil r0
  obtain rfl : args = #[v0] := by cases args; simp_all
  obtain ⟨rfl, rfl⟩ := trodVars_none hV
  obtain ⟨cs0, rfl, _⟩ := okWide_struct Try.underlying32 (hval 0 32 v0 rfl rfl)
  have k0 := h0
  have lt0 : ∀ x ∈ p0, x.block < W.heap.size := by obtain ⟨m, hm⟩ := k0; exact DataW.trod_lt m _ _ _ hm
  obtain ⟨⟨a0_0, a0_1, a0_2, l0_3, a0_4, l0_5⟩, hK0, ⟨z0_0, z0_1, z0_2, z0_3, z0_4, z0_5⟩⟩ := Op.arg_struct opensArg0 h0
  have hK0_ : ((Kd.pair Kd.string (Kd.pair Kd.string (Kd.pair Kd.string (Kd.pair (Kd.slice 63 k63) (Kd.pair Kd.bool (Kd.slice 9 Kd.string))))))).K W (a0_0, a0_1, a0_2, l0_3, a0_4, l0_5) cs0.toList := hK0
  obtain ⟨u0_0, w0_0, e0_0, kk0_0, m0_0⟩ := hK0_
  obtain rfl : u0_0 = _ := kk0_0
  obtain ⟨u0_1, w0_1, e0_1, kk0_1, m0_1⟩ := m0_0
  obtain rfl : u0_1 = _ := kk0_1
  obtain ⟨u0_2, w0_2, e0_2, kk0_2, m0_2⟩ := m0_1
  obtain rfl : u0_2 = _ := kk0_2
  obtain ⟨u0_3, w0_3, e0_3, kk0_3, m0_3⟩ := m0_2
  obtain ⟨A0_3, c0_3, rfl, hc0_3, hr0_3⟩ := kk0_3
  obtain ⟨u0_4, w0_4, e0_4, kk0_4, m0_4⟩ := m0_3
  obtain rfl : u0_4 = _ := kk0_4
  obtain ⟨A0_5, c0_5, el0_5, hc0_5, hr0_5⟩ := m0_4
  obtain rfl : cs0 = #[.string a0_0, .string a0_1, .string a0_2, .slice A0_3 l0_3.length c0_3, .bool a0_4, .slice A0_5 l0_5.length c0_5] := by
    apply Array.toList_inj.1
    rw [e0_0, e0_1, e0_2, e0_3, e0_4, el0_5]
    first | done | rfl
  clear hA0
  obtain ⟨k, h⟩ := Pure.FnExactKeyOf a0_0 a0_1 a0_2 l0_3 a0_4 l0_5 z0_0 z0_1 z0_2 z0_3 z0_5
  refine (laws_FnExactKeyOf.calls k a0_0 a0_1 a0_2 A0_3 c0_3 l0_3 a0_4 A0_5 c0_5 l0_5 true W hr0_3 hc0_3 hr0_5 hc0_5 h).mono fun e W' ⟨he, bel0⟩ => ?_
  have bel : Below W.heap.size W W' := bel0
  subst he
  exact ⟨_, rfl, _, _, _, [], _, [], hW', trodAll_mk1 (shut_bool Try.underlying4 _), (trodAll_cons_mk (Below.trod laidOut (by kernel_rfl) (of_decide_eq_true (by kernel_rfl)) k0 bel lt0) trodAll_mk0), rfl, bel.frame _, fun h => by cases h⟩
set_option maxRecDepth 100000 in
theorem lifted (os : Os) (started : os.Started) (H : Type) (enc : TypeId × Value → H) :
    ReturnsInHanded {} Try.checked os 10 .any (Rows.fnExactKeyOfSpec.pre6 enc Try.prog Try.f10 Rows.fnExactKeyOfRow.domain false) (Rows.fnExactKeyOfSpec.post enc Try.prog Try.f10 false true false false) := by
  refine returnsInHanded_of_change_sized (C := Try.checked) own started (by kernel_rfl) Try.func10
    (ChangeSpec.witness6 (enc := enc) (C := Try.checked) false ⟨#[], #[.agg #[.string ByteArray.empty, .string ByteArray.empty, .string ByteArray.empty, .slice none 0 0, .bool false, .slice none 0 0]], []⟩ 8 (by kernel_rfl) (by kernel_rfl) (by kernel_rfl) (by kernel_rfl)) ?_
  intro W base args ds gs before hval hW _ _ hS
  exact contract H enc W base args ds gs before hval hW
theorem over : Rows.fnExactKeyOfRow.holds Try.pinned (OpenSpec.ofChange Rows.fnExactKeyOfSpec) :=
  OpenClaim.holds_of_wide 10 Try.f10 rfl rfl rfl rfl rfl rfl rfl ⟨rfl, rfl, rfl, rfl, rfl⟩ rfl rfl rfl rfl rfl (by kernel_rfl) Try.func10 (by kernel_rfl)
    (of_decide_eq_true (by kernel_rfl)) (by unfold Func.isWrapper; first | (rw [if_pos (by decide +kernel)]; kernel_rfl) | (rw [if_neg (by decide +kernel)]; exact ⟨rfl, rfl⟩))
    (fun os started H enc _ => lifted os started H enc)
theorem proved : Rows.FnExactKeyOfSaid := over
end Go.Proofs.Ytjjpiioagoeiiaa.fnExactKeyOf
namespace Go.Proofs.Ytjjpiioagoeiiaa
/-- The statement, under a short name, for the claim. -/
theorem fnExactKeyOf_holds : Rows.FnExactKeyOfSaid := fnExactKeyOf.proved
end Go.Proofs.Ytjjpiioagoeiiaa
end
