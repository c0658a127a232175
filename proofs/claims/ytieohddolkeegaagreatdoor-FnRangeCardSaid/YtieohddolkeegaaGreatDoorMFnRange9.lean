/- A part of the proof that the law FnRange answers true at every input that its row speaks of. Conditions: the row's own. -/
import Derived.Test.YtieohddolkeegaaGreatDoorMFnRange8
import Derived.Test.YtieohddolkeegaaGreatDoorKFnRange1
import Derived.Sort.Statements
import Derived.Shelf.SlSortCmp.Insertion
import Derived.Lib.SlicesCompact
import Derived.Test.YtieohddolkeegaaGreatDoorKFnRange0
section
namespace Go.Proofs.YtieohddolkeegaaGreatDoor.U
open Go Go.RowKit Go.Proofs.aA.aZ Go.Proofs.YtieohddolkeegaaGreatDoor.G
set_option linter.unusedVariables false
set_option linter.unusedSimpArgs false
def jD (b : iR) : B :=
 if L b.f1 = [] then (if L b.f0 = [] then [42] else 62 :: 61 :: L b.f0) else if L b.f0 = [] then 60 :: L b.f1 else 62 :: 61 :: (L b.f0 ++ 32 :: 60 :: L b.f1)
def bars : B := [32, 124, 124, 32]
def oU (l : List iR) : B := if jA l = true then Lib.join (l.map jD) bars else []
theorem GN (sep : B) (n m : Nat) (hs : sep.length ≤ m) : ∀ (r : List B), (∀ x ∈ r, x.length ≤ n) → (Lib.joinTail sep r).length ≤ (n + m) * r.length
 | [], _ => by simp [Lib.joinTail]
 | x :: r, h => by
  have := GN sep n m hs r fun y hy => h y (by simp [hy])
  have hx := h x (by simp)
  unfold Lib.joinTail at *
  rw [List.map_cons, List.flatten_cons, List.length_append, List.length_append, List.length_cons, Nat.mul_succ]
  omega
theorem join_le (sep : B) (n m : Nat) (hs : sep.length ≤ m) (r : List B) (h : ∀ x ∈ r, x.length ≤ n) : (Lib.join r sep).length ≤ (n + m) * r.length := by
 cases r with
 | nil => simp [Lib.join_nil]
 | cons x r =>
  rw [Lib.join_cons, List.length_append, List.length_cons, Nat.mul_succ]
  have := GN sep n m hs r fun y hy => h y (by simp [hy])
  have hx := h x (by simp)
  omega
theorem joinS (q : List B) (sep : B) (n m : Nat) (hm : sep.length ≤ m) (hn : ∀ x ∈ q, x.length ≤ n) (hb : (n + m) * q.length ≤ 140737488355328) (hq : q.length ≤ 140737488355328) : strings_Join.f (q.map S) (S sep) = some (S (Lib.join q sep)) := by
 unfold strings_Join.f
 have e : ((q.map S).map (·.data.toList)) = q := by
  rw [List.map_map]
  have : ((fun x : ByteArray => x.data.toList) ∘ S) = id := by funext x; exact lQ x
  rw [this, List.map_id]
 have e2 : (S sep).data.toList = sep := lQ sep
 rw [e, e2, List.length_map, if_pos ⟨hq, Nat.le_trans (join_le sep n m hm q hn) hb⟩]; rfl
theorem Ag {b : iR} (h : (L b.f0).length ≤ 135 ∧ (L b.f1).length ≤ 135) : (jD b).length ≤ 274 := by
 unfold jD
 repeat' split
 all_goals simp; try omega
theorem L9 (acc x : B) : S acc ++ S x = S (acc ++ x) := Zd acc x
theorem VO (l : List iR) (hall : ∀ b ∈ l, (L b.f0).length ≤ 135 ∧ (L b.f1).length ≤ 135) (i : Nat) (hi : i < l.length) (hl : l.length ≤ 8) (acc : B) (ha : acc.length ≤ 278 * i + 4) (r : ByteArray)
  (h : Ev (fun k => bF.l0 k l (S (acc ++ jD (l.getD i z67))) ((i + 1 : Nat) : Int)) r) : Ev (fun k => bF.j1 k l (S acc) (i : Int)) r := by
 have hm := hall _ (getD_mem l i z67 hi)
 have ee : dS l (i : Int) = l.getD i z67 := rfl
 have s1 : (⟨#[42]⟩ : ByteArray) = S [42] := rfl
 have s2 : (⟨#[62, 61]⟩ : ByteArray) = S [62, 61] := rfl
 have s3 : (⟨#[60]⟩ : ByteArray) = S [60] := rfl
 have s4 : (⟨#[32, 60]⟩ : ByteArray) = S [32, 60] := rfl
 generalize hb : l.getD i z67 = b at hm h ee
 have z0 := fM b.f0
 have z1 := fM b.f1
 unfold jD at h
 by_cases h1 : L b.f1 = []
 ·rw [if_pos h1] at h
  by_cases h0 : L b.f0 = []
  ·rw [if_pos h0] at h
   refine Ev.step (f := fun k => bF.j2 k l (S acc) (i : Int) true) (fun k => ?_) (Ev.step (fun k => ?_) h)
   ·rw [bF.j1, if_pos (by omega), if_pos (by omega), ee, eY, if_pos h0, eY, h1]; rfl
   ·rw [bF.j2, if_pos rfl, if_pos (by rw [fD]; omega), s1, L9, wC i (by omega)]
  ·rw [if_neg h0] at h
   refine Ev.step (f := fun k => bF.j2 k l (S acc) (i : Int) false) (fun k => ?_) (Ev.step (fun k => ?_) h)
   ·rw [bF.j1, if_pos (by omega), if_pos (by omega), ee, eY, if_neg h0]
   ·rw [bF.j2, if_neg (by decide), if_pos (by omega), if_pos (by omega), ee, eY, if_pos h1, if_pos (by rw [fD]; omega), s2, L9, if_pos (by rw [fD, List.length_append, z0]; simp; omega), wC i (by omega)]
    have e : S (acc ++ [62, 61]) ++ b.f0 = S (acc ++ 62 :: 61 :: L b.f0) := by apply mD; rw [kX, lQ, lQ]; simp
    rw [e]
 ·rw [if_neg h1] at h
  have j1 : Ev (fun k => bF.j2 k l (S acc) (i : Int) false) r → Ev (fun k => bF.j1 k l (S acc) (i : Int)) r := fun h => by
   refine Ev.step (fun k => ?_) h
   rw [bF.j1, if_pos (by omega), if_pos (by omega), ee, eY]
   by_cases h0 : L b.f0 = []
   ·rw [if_pos h0, eY]
    have : (L b.f1 == ([] : List UInt8)) = false := beq_eq_false_iff_ne.2 h1
    rw [this]
   ·rw [if_neg h0]
  refine j1 (Ev.step (fun k => ?_) h)
  rw [bF.j2, if_neg (by decide), if_pos (by omega), if_pos (by omega), ee, eY, if_neg h1, eY, wC i (by omega)]
  by_cases h0 : L b.f0 = []
  ·rw [if_pos h0, if_pos h0, if_pos (by rw [fD]; omega), s3, L9, if_pos (by rw [fD, List.length_append, z1]; simp; omega)]
   have e : S (acc ++ [60]) ++ b.f1 = S (acc ++ 60 :: L b.f1) := by apply mD; rw [kX, lQ, lQ]; simp
   rw [e]
  ·rw [if_neg h0, if_neg h0, if_pos (by rw [fD]; omega), s2, L9, if_pos (by rw [fD, List.length_append, z0]; simp; omega)]
   have e : S (acc ++ [62, 61]) ++ b.f0 = S (acc ++ 62 :: 61 :: L b.f0) := by apply mD; rw [kX, lQ, lQ]; simp
   rw [e, if_pos (by rw [fD, List.length_append]; simp; omega), s4, L9, if_pos (by rw [fD, List.length_append, z1]; simp; omega)]
   have e2 : S (acc ++ 62 :: 61 :: L b.f0 ++ [32, 60]) ++ b.f1 = S (acc ++ 62 :: 61 :: (L b.f0 ++ 32 :: 60 :: L b.f1)) := by apply mD; rw [kX, lQ, lQ]; simp
   rw [e2]
theorem Dx (l : List iR) (hl : l.length ≤ 1048576) (hs : ∀ b ∈ l, b.f0.size ≤ 1048576 ∧ b.f1.size ≤ 1048576) : Ev (fun k => bF.f k l) (S (oU l)) := by
 have hok := nY l hl hs
 unfold bF.f oU
 by_cases h : jA l = true
 ·obtain ⟨hall, hl1, hl8⟩ := vM h
  rw [if_pos h]
  have key : ∀ d i (acc : B), i + d = l.length → 1 ≤ i → acc.length ≤ 278 * i → Ev (fun k => bF.l0 k l (S acc) (i : Int)) (S (acc ++ Lib.joinTail bars ((l.drop i).map jD))) := by
   intro d
   induction d with
   | zero =>
    intro i acc hi h1 ha
    rw [List.drop_of_length_le (by omega)]
    exact Ev.step (f := fun k => some (S acc)) (fun k => by rw [bF.l0, if_neg (by omega)]) (eH (Ev.now _) (by simp [Lib.joinTail]))
   | succ d ih =>
    intro i acc hi h1 ha
    have hlt : i < l.length := by omega
    have hm := Ag (hall _ (getD_mem l i z67 hlt))
    have e2 : Lib.joinTail bars ((l.drop i).map jD) = (bars ++ jD (l.getD i z67)) ++ Lib.joinTail bars ((l.drop (i + 1)).map jD) := by
     rw [mg l i z67 hlt, List.map_cons]
     unfold Lib.joinTail; rw [List.map_cons, List.flatten_cons]
    have s5 : (⟨#[32, 124, 124, 32]⟩ : ByteArray) = S bars := rfl
    have go := ih (i + 1) ((acc ++ bars) ++ jD (l.getD i z67)) (by omega) (by omega) (by rw [List.length_append, List.length_append]; show acc.length + 4 + _ ≤ _; omega)
    rw [e2, ← List.append_assoc, ← List.append_assoc]
    refine Ev.step (f := fun k => (bZ.f k l).bind fun t => if t = true then bF.j1 k l (S (acc ++ bars)) (i : Int) else some (⟨#[]⟩ : ByteArray)) (fun k => ?_) (Ev.bind hok (aK h ?_))
    ·rw [bF.l0, if_pos (by omega), s5, L9]
     refine Option.bind_congr fun t _ => ?_
     by_cases ht : t = true
     ·rw [if_pos ht, if_pos ht, if_pos (by omega), if_pos (by rw [fD]; omega)]
     ·rw [if_neg ht, if_neg ht]
    ·exact VO l hall i hlt hl8 (acc ++ bars) (by rw [List.length_append]; show acc.length + 4 ≤ _; omega) _ go
  have hlt : 0 < l.length := by omega
  have hm := Ag (hall _ (getD_mem l 0 z67 hlt))
  have go := key (l.length - 1) 1 (jD (l.getD 0 z67)) (by omega) (by omega) (by omega)
  have e2 : Lib.join (l.map jD) bars = jD (l.getD 0 z67) ++ Lib.joinTail bars ((l.drop 1).map jD) := by
   have := mg l 0 z67 hlt
   rw [List.drop_zero] at this
   conv => lhs; rw [this]
   rw [List.map_cons, Lib.join_cons]
  rw [e2]
  refine Ev.step (f := fun k => (bZ.f k l).bind fun t => if t = true then bF.j1 k l (S []) ((0 : Nat) : Int) else some (⟨#[]⟩ : ByteArray)) (fun k => ?_) (Ev.bind hok (aK h ?_))
  ·rw [bF.l0, if_pos (by omega)]
   refine Option.bind_congr fun t _ => ?_
   by_cases ht : t = true
   ·rw [if_pos ht, if_pos ht, if_neg (by omega)]; rfl
   ·rw [if_neg ht, if_neg ht]
  ·exact VO l hall 0 hlt hl8 [] (by simp) _ (by rw [List.nil_append]; exact go)
 ·rw [if_neg h]
  by_cases h0 : l.length = 0
  ·exact Ev.step (f := fun k => some (⟨#[]⟩ : ByteArray)) (fun k => by rw [bF.l0, if_neg (by omega)]) (Ev.now _)
  ·refine Ev.step (f := fun k => (bZ.f k l).bind fun t => if t = true then bF.j1 k l ⟨#[]⟩ 0 else some (⟨#[]⟩ : ByteArray)) (fun k => ?_) (Ev.bind hok (aY h (Ev.now _)))
   rw [bF.l0, if_pos (by omega)]
   refine Option.bind_congr fun t _ => ?_
   by_cases ht : t = true
   ·rw [if_pos ht, if_pos ht, if_neg (by omega)]
   ·rw [if_neg ht, if_neg ht]
theorem TM (l : List iR) (hl8 : l.length ≤ 8) (i : Nat) (hi8 : i ≤ 8) (x3 : List ByteArray) (h3 : x3.length ≤ 8) (b : iR) (hm : (L b.f0).length ≤ 135 ∧ (L b.f1).length ≤ 135) (q : List B) (hq : q = if L b.f0 = [] then [] else [62 :: 61 :: L b.f0]) (r : ByteArray)
  (h : Ev (fun k => dK.l0 k (x3 ++ [S (jD b)]) l (l.length : Int) ((i + 1 : Nat) : Int)) r) : Ev (fun k => dK.j1 k x3 (q.map S) l (l.length : Int) (i : Int) b.f0 b.f1) r := by
 have w1 : wrap64 ((i : Int) + 1) = ((i + 1 : Nat) : Int) := wC i (by omega)
 have z1 := fM b.f1
 have hql : q.length ≤ 1 ∧ ∀ x ∈ q, x.length ≤ 137 := by
  rw [hq]; split
  ·simp
  ·refine ⟨by simp, fun x hx => ?_⟩
   rw [List.mem_singleton] at hx; subst hx; simp; omega
 have sp : (⟨#[32]⟩ : ByteArray) = S [32] := rfl
 have st : ([(⟨#[42]⟩ : ByteArray)] : List ByteArray) = [[42]].map S := rfl
 have lt : (⟨#[60]⟩ : ByteArray) ++ b.f1 = S (60 :: L b.f1) := by apply mD; rw [kX, lQ]; rfl
 have join : ∀ p : List B, p.length ≤ 2 → (∀ x ∈ p, x.length ≤ 137) → strings_Join.f (p.map S) (⟨#[32]⟩ : ByteArray) = some (S (Lib.join p [32])) := fun p h1 h2 => by
  rw [sp]; exact joinS p [32] 137 1 (by simp) h2 (by omega) (by omega)
 unfold jD at h
 by_cases h1 : L b.f1 = []
 ·rw [if_pos h1] at h
  by_cases h0 : L b.f0 = []
  ·rw [if_pos h0] at h hq
   subst hq
   have hj := join [[42]] (by simp) (by simp)
   rw [Lib.join_one] at hj
   refine Ev.step (fun k => ?_) h
   rw [dK.j1, eY, if_pos h1, if_pos (by simp), st, hj, Option.bind_some, if_pos (by omega), w1]
  ·rw [if_neg h0] at h hq
   subst hq
   have hj := join [62 :: 61 :: L b.f0] (by simp) hql.2
   rw [Lib.join_one] at hj
   refine Ev.step (fun k => ?_) h
   rw [dK.j1, eY, if_pos h1, if_neg (by simp), hj, Option.bind_some, if_pos (by omega), w1]
 ·rw [if_neg h1] at h
  have e : q.map S ++ [S (60 :: L b.f1)] = (q ++ [60 :: L b.f1]).map S := by rw [List.map_append]; rfl
  have hj := join (q ++ [60 :: L b.f1]) (by rw [List.length_append]; simp; omega) fun x hx => by
   rw [List.mem_append, List.mem_singleton] at hx
   rcases hx with hx | rfl
   ·exact hql.2 x hx
   ·simp; omega
  refine Ev.step (f := fun k => dK.l0 k (x3 ++ [S (Lib.join (q ++ [60 :: L b.f1]) [32])]) l (l.length : Int) ((i + 1 : Nat) : Int)) (fun k => ?_) ?_
  ·rw [dK.j1, eY, if_neg h1, if_pos (by omega), if_pos (by rw [List.length_map]; omega), lt, e, Option.bind_some, if_neg (by simp; omega), hj, Option.bind_some, if_pos (by omega), w1]
  ·by_cases h0 : L b.f0 = []
   ·rw [if_pos h0] at h hq
    subst hq
    rw [List.nil_append, Lib.join_one]; exact h
   ·rw [if_neg h0] at h hq
    subst hq
    have e3 : Lib.join ([62 :: 61 :: L b.f0] ++ [60 :: L b.f1]) [32] = 62 :: 61 :: (L b.f0 ++ 32 :: 60 :: L b.f1) := by
     show Lib.join [62 :: 61 :: L b.f0, 60 :: L b.f1] [32] = _
     rw [Lib.join_cons]; simp [Lib.joinTail]
    rw [e3]; exact h
theorem Dw (l : List iR) (hl : l.length ≤ 1048576) (hs : ∀ b ∈ l, b.f0.size ≤ 1048576 ∧ b.f1.size ≤ 1048576) : Ev (fun k => dK.f k l) (S (oU l)) := by
 unfold dK.f oU
 refine Ev.bind (nX l hl hs) ?_
 by_cases h : jA l = true
 ·obtain ⟨hall, hl1, hl8⟩ := vM h
  refine aK h ?_
  rw [if_pos h]
  have key : ∀ d i, i + d = l.length → Ev (fun k => dK.l0 k (((l.take i).map jD).map S) l (l.length : Int) (i : Int)) (S (Lib.join (l.map jD) bars)) := by
   intro d
   induction d with
   | zero =>
    intro i hi
    rw [List.take_of_length_le (by omega)]
    have hj := joinS (l.map jD) bars 274 4 (by decide) (fun x hx => by
     obtain ⟨b, hb, rfl⟩ := List.mem_map.1 hx
     exact Ag (hall b hb)) (by rw [List.length_map]; omega) (by rw [List.length_map]; omega)
    have s5 : (⟨#[32, 124, 124, 32]⟩ : ByteArray) = S bars := rfl
    exact Ev.step (f := fun k => some (S (Lib.join (l.map jD) bars))) (fun k => by rw [dK.l0, if_neg (by omega), s5, hj]; rfl) (Ev.now _)
   | succ d ih =>
    intro i hi
    have hlt : i < l.length := by omega
    have hm := hall _ (getD_mem l i z67 hlt)
    have ee : dS l (i : Int) = l.getD i z67 := rfl
    have go := ih (i + 1) (by omega)
    have et : l.take (i + 1) = l.take i ++ [l.getD i z67] := by
     rw [List.getD_eq_getElem?_getD, List.getElem?_eq_getElem hlt, List.take_succ_eq_append_getElem hlt]; rfl
    rw [et, List.map_append, List.map_append] at go
    have h3 : (((l.take i).map jD).map S).length ≤ 8 := by rw [List.length_map, List.length_map, List.length_take]; omega
    generalize hb : l.getD i z67 = b at hm go ee
    have gp := TM l hl8 i (by omega) _ h3 b hm _ rfl _ go
    have z0 := fM b.f0
    have lt : (⟨#[62, 61]⟩ : ByteArray) ++ b.f0 = S (62 :: 61 :: L b.f0) := by apply mD; rw [kX, lQ]; rfl
    refine Ev.step (fun k => ?_) gp
    rw [dK.l0, if_pos (by omega), if_pos (by omega), if_pos (by omega), ee, Option.bind_some, eY]
    by_cases h0 : L b.f0 = []
    ·rw [if_pos h0, if_pos h0]; rfl
    ·rw [if_neg h0, if_neg h0, if_pos (by omega), if_pos (by simp), lt]; rfl
  exact key l.length 0 (by omega)
 ·rw [if_neg h]
  exact aY h (Ev.now _)
end Go.Proofs.YtieohddolkeegaaGreatDoor.U

end
section
namespace Go.Proofs.YtieohddolkeegaaGreatDoor.U
open Go Go.RowKit Go.Sort Go.Lib
set_option linter.unusedVariables false
set_option linter.unusedSimpArgs false
variable {β : Type}
def Keyed (cf : β → β → Int) (k : β → List Int) : Prop := ∀ x y, cf x y = lex (k x) (k y)
section
variable {cf : β → β → Int} {k : β → List Int}
theorem Keyed.anti (h : Keyed cf k) (x y : β) : cf x y = - cf y x := by rw [h, h]; exact QJ _ _
theorem Keyed.self (h : Keyed cf k) (x : β) : cf x x = 0 := by rw [h]; exact JI _
def TN (cf : β → β → Int) (l : List β) : Prop := l.Pairwise fun x y => cf x y < 0
theorem QT (h : Keyed cf k) : ∀ l m : List β, TN cf l → TN cf m → (∀ x, x ∈ l ↔ x ∈ m) → l = m
 | [], [], _, _, _ => rfl
 | [], y :: m, _, _, e => absurd ((e y).2 (by simp)) (by simp)
 | x :: l, [], _, _, e => absurd ((e x).1 (by simp)) (by simp)
 | x :: l, y :: m, hl, hm, e => by
  unfold TN at hl hm
  rw [List.pairwise_cons] at hl hm
  have xy : x = y := by
   have h1 := (e x).1 (by simp)
   have h2 := (e y).2 (by simp)
   rw [List.mem_cons] at h1 h2
   rcases h1 with h1 | h1
   ·exact h1
   ·rcases h2 with h2 | h2
    ·exact h2.symm
    ·have a := hm.1 x h1
     have b := hl.1 y h2
     have := h.anti x y
     omega
  subst xy
  rw [QT h l m hl.2 hm.2 fun z => ?_]
  have := e z
  rw [List.mem_cons, List.mem_cons] at this
  constructor
  ·intro hz
   rcases this.1 (Or.inr hz) with rfl | h1
   ·have := hl.1 z hz; rw [h.self] at this; omega
   ·exact h1
  ·intro hz
   rcases this.2 (Or.inr hz) with rfl | h1
   ·have := hm.1 z hz; rw [h.self] at this; omega
   ·exact h1
variable [DecidableEq β]
def ins (cf : β → β → Int) (s : β) : List β → List β
 | [] => [s]
 | w :: l => if cf w s < 0 then w :: ins cf s l else if w = s then w :: l else s :: w :: l
theorem mem_ins (s x : β) : ∀ l : List β, x ∈ ins cf s l ↔ x = s ∨ x ∈ l
 | [] => by simp [ins]
 | w :: l => by
  rw [ins]
  by_cases h1 : cf w s < 0
  ·rw [if_pos h1, List.mem_cons, mem_ins s x l, List.mem_cons]
   constructor
   ·rintro (h | h | h)
    ·exact Or.inr (Or.inl h)
    ·exact Or.inl h
    ·exact Or.inr (Or.inr h)
   ·rintro (h | h | h)
    ·exact Or.inr (Or.inl h)
    ·exact Or.inl h
    ·exact Or.inr (Or.inr h)
  ·rw [if_neg h1]
   by_cases h2 : w = s
   ·subst h2; rw [if_pos rfl]; simp
   ·rw [if_neg h2, List.mem_cons]
def sorted (cf : β → β → Int) (l : List β) : List β := l.foldl (fun out s => ins cf s out) []
variable [Inhabited β]
end
end Go.Proofs.YtieohddolkeegaaGreatDoor.U

end
section
namespace Go.Proofs.YtieohddolkeegaaGreatDoor.U
open Go Go.RowKit Go.Proofs.aA.aZ Go.Proofs.YtieohddolkeegaaGreatDoor.G
set_option linter.unusedVariables false
set_option linter.unusedSimpArgs false
theorem uw (a b : Int) : gm.f a b = some (jC a b) := by
 unfold gm.f jC
 by_cases h : a < b
 ·rw [if_pos h, if_pos h]
 ·rw [if_neg h, if_neg h]
  by_cases h2 : b < a
  ·rw [if_pos (show a > b from h2), if_pos h2]
  ·rw [if_neg (show ¬ a > b from h2), if_neg h2]
theorem sF (a b : Int) : iH.f a b = some (jC a b) := by
 unfold iH.f jC
 by_cases h : a < b
 ·rw [if_pos h, if_pos h]
 ·rw [if_neg h, if_neg h]
  by_cases h2 : b < a
  ·rw [if_pos (show a > b from h2), if_pos h2]
  ·rw [if_neg (show ¬ a > b from h2), if_neg h2]
theorem FT (a b : ByteArray) : mM.f a b = some (Lib.compareBytes (L a) (L b)) := by
 unfold mM.f
 rw [eY, eY, ← Wv]
 by_cases h : Op.bytesLess (L a) (L b) = true
 ·rw [if_pos h, if_pos h]
 ·rw [if_neg h, if_neg h]
  by_cases h2 : Op.bytesLess (L b) (L a) = true
  ·rw [if_pos h2, if_pos h2]
  ·rw [if_neg h2, if_neg h2]
theorem JQ (a b : ByteArray) : strings_Compare.f a b = some (Lib.compareBytes (L a) (L b)) := rfl
theorem Gp (a b : ByteArray) (ha : a.size ≤ 1099511627776) (hb : b.size ≤ 1099511627776) : Ev (fun k => dN.f k a b) (xk (L a) (L b)) := by
 unfold dN.f xk
 refine Ev.bind (qN a ha) (Ev.bind (qN b hb) ?_)
 by_cases h1 : 0 ≤ cu (L a)
 ·rw [if_pos h1]
  refine aK h1 ?_
  by_cases h2 : 0 ≤ cu (L b)
  ·rw [if_pos h2]
   refine Ev.step (f := fun _ => some (jC (cu (L a)) (cu (L b)))) (fun k => ?_) (Ev.now _)
   rw [dN.j0, if_pos (decide_eq_true h2), sF]; rfl
  ·rw [if_neg h2]
   refine Ev.step (f := fun _ => some (-1)) (fun k => ?_) (Ev.now _)
   rw [dN.j0, if_neg (by simpa using h2), if_pos h1]
 ·rw [if_neg h1]
  refine aY h1 ?_
  by_cases h2 : 0 ≤ cu (L b)
  ·rw [if_pos h2]
   refine Ev.step (f := fun _ => some 1) (fun k => ?_) (Ev.now _)
   rw [dN.j0, if_neg (by decide), if_neg h1, if_pos h2]
  ·rw [if_neg h2]
   refine Ev.step (f := fun _ => some (Lib.compareBytes (L a) (L b))) (fun k => ?_) (Ev.now _)
   rw [dN.j0, if_neg (by decide), if_neg h1, if_neg h2, FT]; rfl
theorem JR (l m : List ByteArray) (i : Nat) (h : (i = l.length ∧ i ≤ m.length) ∨ (i = m.length ∧ i ≤ l.length)) : cmpL ((l.drop i).map L) ((m.drop i).map L) = jC l.length m.length := by
 unfold jC
 by_cases h1 : l.length = i
 ·rw [List.drop_of_length_le (by omega)]
  by_cases h2 : m.length = i
  ·rw [List.drop_of_length_le (by omega), if_neg (by omega), if_neg (by omega)]; rfl
  ·rw [mg m i ByteArray.empty (by omega), if_pos (by omega)]; rfl
 ·rw [mg l i ByteArray.empty (by omega), List.drop_of_length_le (show m.length ≤ i by omega), if_neg (by omega), if_pos (by omega)]; rfl
theorem QU (a b c : Int) (l : List ByteArray) (a' b' c' : Int) (m : List ByteArray) (hl : l.length ≤ 1048577) (hs : ∀ x ∈ l, x.size ≤ 1048576) (ht : ∀ x ∈ m, x.size ≤ 1048576) : ∀ d i, i + d = l.length → i ≤ m.length →
  Ev (fun k => aC.l1 k (i : Int) a b c l a' b' c' m) (cmpL ((l.drop i).map L) ((m.drop i).map L)) := by
 intro d
 induction d with
 | zero =>
  intro i hi hm
  rw [JR l m i (Or.inl ⟨by omega, hm⟩)]
  refine Ev.step (f := fun k => aC.j3 k (i : Int) false a b c l a' b' c' m) (fun k => by rw [aC.l1, if_neg (by omega)]) ?_
  exact Ev.step (f := fun _ => some (jC l.length m.length)) (fun k => by rw [aC.j3, if_neg (by decide), sF]; rfl) (Ev.now _)
 | succ d ih =>
  intro i hi hm
  refine Ev.step (f := fun k => aC.j3 k (i : Int) (decide ((i : Int) < (m.length : Int))) a b c l a' b' c' m) (fun k => by rw [aC.l1, if_pos (by omega)]) ?_
  by_cases h : i < m.length
  ·have e1 : iE ByteArray.empty l (i : Int) = l.getD i ByteArray.empty := rfl
   have e2 : iE ByteArray.empty m (i : Int) = m.getD i ByteArray.empty := rfl
   have p1 := hs _ (getD_mem l i ByteArray.empty (by omega))
   have p2 := ht _ (getD_mem m i ByteArray.empty h)
   rw [mg l i ByteArray.empty (by omega), mg m i ByteArray.empty h, List.map_cons, List.map_cons, cmpL]
   refine Ev.step (f := fun k => (dN.f k (l.getD i ByteArray.empty) (m.getD i ByteArray.empty)).bind fun t => if t = 0 then aC.l1 k ((i + 1 : Nat) : Int) a b c l a' b' c' m else some t) (fun k => ?_) (Ev.bind (Gp _ _ (by omega) (by omega)) ?_)
   ·rw [aC.j3, if_pos (decide_eq_true (by omega)), if_pos (by omega), if_pos (by omega), if_pos (by omega), e1, e2, wC i (by omega)]
   ·by_cases hz : xk (L (l.getD i ByteArray.empty)) (L (m.getD i ByteArray.empty)) = 0
    ·rw [if_pos hz]; exact aK hz (ih (i + 1) (by omega) (by omega))
    ·rw [if_neg hz]; exact aY hz (Ev.now _)
  ·rw [JR l m i (Or.inr ⟨by omega, by omega⟩)]
   exact Ev.step (f := fun _ => some (jC l.length m.length)) (fun k => by rw [aC.j3, if_neg (by rw [decide_eq_true_iff]; omega), sF]; rfl) (Ev.now _)
theorem map_nil {l : List ByteArray} : l.map L = [] ↔ l = [] := List.map_eq_nil_iff
theorem QV (l m : List ByteArray) : (if l.map L = [] ∨ m.map L = [] then jC (m.map L).length (l.map L).length else cmpL (l.map L) (m.map L)) = if l = [] ∨ m = [] then jC m.length l.length else cmpL (l.map L) (m.map L) := by
 by_cases h : l = [] ∨ m = []
 ·rw [if_pos h, if_pos (h.imp map_nil.2 map_nil.2), List.length_map, List.length_map]
 ·rw [if_neg h, if_neg fun k => h (k.imp map_nil.1 map_nil.1)]
theorem lH (a b c : Int) (l : List ByteArray) (a' b' c' : Int) (m : List ByteArray) (hl : l.length ≤ 1048577) (hs : ∀ x ∈ l, x.size ≤ 1048576) (ht : ∀ x ∈ m, x.size ≤ 1048576) : Ev (fun k => aC.f k a b c l a' b' c' m) (xO a b c (l.map L) a' b' c' (m.map L)) := by
 unfold aC.f xO
 refine bn (sF _ _) (bn (sF _ _) (bn (sF _ _) ?_))
 generalize jC a a' = x
 generalize jC b b' = y
 generalize jC c c' = z
 have h3 : Ev (fun k => aC.l0 k [x, y, z] ((2 + 1 : Nat) : Int) a b c l a' b' c' m) (if l.map L = [] ∨ m.map L = [] then jC (m.map L).length (l.map L).length else cmpL (l.map L) (m.map L)) := by
  rw [QV]
  have e : ∀ k, aC.l0 (k + 1) [x, y, z] ((2 + 1 : Nat) : Int) a b c l a' b' c' m = aC.j1 k (decide (l = [] ∨ m = [])) a b c l a' b' c' m := fun k => by
   rw [aC.l0, if_neg (by omega)]
   cases l with
   | nil => rw [if_pos (by simp)]; simp
   | cons p l =>
    rw [if_neg (by rw [List.length_cons]; omega)]
    cases m with
    | nil => simp
    | cons q m => rw [beq_eq_false_iff_ne.2 (show ¬ ((q :: m).length : Int) = 0 by rw [List.length_cons]; omega)]; simp
  refine Ev.step e ?_
  by_cases h : l = [] ∨ m = []
  ·rw [if_pos h]
   exact Ev.step (f := fun _ => some (jC m.length l.length)) (fun k => by rw [aC.j1, if_pos (decide_eq_true h), sF]; rfl) (Ev.now _)
  ·rw [if_neg h]
   refine Ev.step (fun k => ?_) (QU a b c l a' b' c' m hl hs ht l.length 0 (by omega) (by omega))
   rw [aC.j1, if_neg (by simpa using h)]; rfl
 have st : ∀ (i : Nat), i < 3 → ∀ {q : Int}, Ev (fun k => aC.l0 k [x, y, z] ((i + 1 : Nat) : Int) a b c l a' b' c' m) q → Ev (fun k => aC.l0 k [x, y, z] (i : Int) a b c l a' b' c' m) (if rd [x, y, z] (i : Int) = 0 then q else rd [x, y, z] (i : Int)) := by
  intro i hi q hq
  by_cases h : rd [x, y, z] (i : Int) = 0
  ·rw [if_pos h]
   refine Ev.step (fun k => ?_) hq
   rw [aC.l0, if_pos (by omega), if_pos (by omega), if_pos (by simp; omega), if_pos h, wC i (by omega)]
  ·rw [if_neg h]
   refine Ev.step (f := fun _ => some (rd [x, y, z] (i : Int))) (fun k => ?_) (Ev.now _)
   rw [aC.l0, if_pos (by omega), if_pos (by omega), if_pos (by simp; omega), if_neg h]
 exact st 0 (by omega) (st 1 (by omega) (st 2 (by omega) h3))
theorem QW {l : B} (h : o7 l = true) : isNum l = decide (0 ≤ cu l) := by
 unfold o7 at h
 simp only [Bool.and_eq_true, Bool.or_eq_true, Bool.not_eq_true', decide_eq_true_eq] at h
 by_cases h1 : isNum l = true
 ·rw [h1]
  rcases h.2.2 with h2 | h2
  ·rw [h1] at h2; cases h2
  ·rw [decide_eq_true h2]
 ·rw [Bool.not_eq_true] at h1
  rw [h1]
  by_cases h2 : 0 ≤ cu l
  ·obtain ⟨u, _, e, _⟩ := qf (l := l) (by omega)
   exfalso
   unfold isNum at h1
   rw [e] at h1
   have h3 : (Lib.decDigits u).all yG = true := List.all_eq_true.2 (EO u)
   have h4 : (Lib.decDigits u != []) = true := bne_iff_ne.2 (NZ u)
   rw [h3, h4] at h1; cases h1
  ·rw [decide_eq_false h2]
theorem trim0 (s : ByteArray) (hs : s.size ≤ 1048576) : eQ.f s (⟨#[48]⟩ : ByteArray) = some (S (o5 (L s))) := by
 unfold eQ.f
 rw [dif_pos (show (⟨#[48]⟩ : ByteArray).size = 1 from rfl), if_pos ⟨by decide, by omega⟩]
 rfl
theorem Ci (a b : ByteArray) (ha : o7 (L a) = true) (hb : o7 (L b) = true) : Ev (fun k => fO.f k a b) (xk (L a) (L b)) := by
 have la := sD ha
 have lb := sD hb
 rw [← fM] at la lb
 unfold fO.f xk
 refine Ev.bind (ry a (by omega)) (Ev.bind (ry b (by omega)) ?_)
 rw [QW ha, QW hb]
 by_cases h1 : 0 ≤ cu (L a)
 ·rw [if_pos h1]
  refine aK (decide_eq_true h1) ?_
  by_cases h2 : 0 ≤ cu (L b)
  ·rw [if_pos h2]
   have hc := Wu h1 h2
   refine Ev.step (f := fun _ => some (jC (cu (L a)) (cu (L b)))) (fun k => ?_) (Ev.now _)
   rw [fO.j0, if_pos (decide_eq_true h2), trim0 a (by omega), Option.bind_some, trim0 b (by omega), Option.bind_some, uw, Option.bind_some, fD, fD, JQ, Option.bind_some, lQ, lQ, ← hc]
   by_cases h3 : jC (o5 (L a)).length (o5 (L b)).length = 0
   ·rw [if_pos h3, if_pos h3]
   ·rw [if_neg h3, if_neg h3]
  ·rw [if_neg h2]
   refine Ev.step (f := fun _ => some (-1)) (fun k => ?_) (Ev.now _)
   rw [fO.j0, if_neg (by simpa using h2), if_pos (decide_eq_true h1)]
 ·rw [if_neg h1]
  refine aY (by simpa using h1) ?_
  by_cases h2 : 0 ≤ cu (L b)
  ·rw [if_pos h2]
   refine Ev.step (f := fun _ => some 1) (fun k => ?_) (Ev.now _)
   rw [fO.j0, if_neg (by decide), if_neg (by simpa using h1), if_pos (decide_eq_true h2)]
  ·rw [if_neg h2]
   refine Ev.step (f := fun _ => some (Lib.compareBytes (L a) (L b))) (fun k => ?_) (Ev.now _)
   rw [fO.j0, if_neg (by decide), if_neg (by simpa using h1), if_neg (by simpa using h2), JQ]; rfl
theorem mn_nat (a b : Nat) : mn (a : Int) (b : Int) = ((min a b : Nat) : Int) := by
 unfold mn
 split <;> omega
theorem QX (a b c : Int) (l : List ByteArray) (a' b' c' : Int) (m : List ByteArray) (hl : l.length ≤ 1048577) (hs : ∀ x ∈ l, o7 (L x) = true) (ht : ∀ x ∈ m, o7 (L x) = true) : ∀ d i, i + d = min l.length m.length →
  Ev (fun k => bM.l1 k ((min l.length m.length : Nat) : Int) (i : Int) a b c l a' b' c' m) (cmpL ((l.drop i).map L) ((m.drop i).map L)) := by
 intro d
 induction d with
 | zero =>
  intro i hi
  rw [JR l m i (by omega)]
  exact Ev.step (f := fun _ => some (jC l.length m.length)) (fun k => by rw [bM.l1, if_neg (by omega), uw]; rfl) (Ev.now _)
 | succ d ih =>
  intro i hi
  have e1 : iE ByteArray.empty l (i : Int) = l.getD i ByteArray.empty := rfl
  have e2 : iE ByteArray.empty m (i : Int) = m.getD i ByteArray.empty := rfl
  have p1 := hs _ (getD_mem l i ByteArray.empty (by omega))
  have p2 := ht _ (getD_mem m i ByteArray.empty (by omega))
  rw [mg l i ByteArray.empty (by omega), mg m i ByteArray.empty (by omega), List.map_cons, List.map_cons, cmpL]
  refine Ev.step (f := fun k => (fO.f k (l.getD i ByteArray.empty) (m.getD i ByteArray.empty)).bind fun t => if t = 0 then bM.l1 k ((min l.length m.length : Nat) : Int) ((i + 1 : Nat) : Int) a b c l a' b' c' m else some t) (fun k => ?_) (Ev.bind (Ci _ _ p1 p2) ?_)
  ·rw [bM.l1, if_pos (by omega), if_pos (by omega), if_pos (by omega), if_pos (by omega), e1, e2, wC i (by omega)]
  ·by_cases hz : xk (L (l.getD i ByteArray.empty)) (L (m.getD i ByteArray.empty)) = 0
   ·rw [if_pos hz]; exact aK hz (ih (i + 1) (by omega))
   ·rw [if_neg hz]; exact aY hz (Ev.now _)
theorem yZ (a b c : Int) (l : List ByteArray) (a' b' c' : Int) (m : List ByteArray) (hl : l.length ≤ 1048577) (hs : ∀ x ∈ l, o7 (L x) = true) (ht : ∀ x ∈ m, o7 (L x) = true) : Ev (fun k => bM.f k a b c l a' b' c' m) (xO a b c (l.map L) a' b' c' (m.map L)) := by
 unfold bM.f xO
 refine bn (uw _ _) (bn (uw _ _) (bn (uw _ _) (kH ?_)))
 generalize jC a a' = x
 generalize jC b b' = y
 generalize jC c c' = z
 have h3 : Ev (fun k => bM.l0 k [x, y, z] (([x, y, z] : List Int).length : Int) ((2 + 1 : Nat) : Int) a b c l a' b' c' m) (if l.map L = [] ∨ m.map L = [] then jC (m.map L).length (l.map L).length else cmpL (l.map L) (m.map L)) := by
  rw [QV]
  have go := QX a b c l a' b' c' m hl hs ht _ 0 (Nat.zero_add _)
  by_cases h : ((((l.length : Int)) == 0) != (((m.length : Int)) == 0)) = true
  ·have h' : l = [] ∨ m = [] := by
    cases l with
    | nil => exact Or.inl rfl
    | cons p l =>
     cases m with
     | nil => exact Or.inr rfl
     | cons q m =>
      exfalso
      have e1 : (((p :: l).length : Int) == 0) = false := beq_eq_false_iff_ne.2 (by rw [List.length_cons]; omega)
      have e2 : (((q :: m).length : Int) == 0) = false := beq_eq_false_iff_ne.2 (by rw [List.length_cons]; omega)
      rw [e1, e2] at h; cases h
   rw [if_pos h']
   exact Ev.step (f := fun _ => some (jC m.length l.length)) (fun k => by rw [bM.l0, if_neg (by simp), if_pos h, uw]; rfl) (Ev.now _)
  ·have e : (if l = [] ∨ m = [] then jC m.length l.length else cmpL (l.map L) (m.map L)) = cmpL (l.map L) (m.map L) := by
    by_cases h' : l = [] ∨ m = []
    ·have hb : l = [] ∧ m = [] := by
      cases l with
      | nil =>
       cases m with
       | nil => exact ⟨rfl, rfl⟩
       | cons q m =>
        exfalso; apply h
        have e2 : (((q :: m).length : Int) == 0) = false := beq_eq_false_iff_ne.2 (by rw [List.length_cons]; omega)
        rw [e2]; rfl
      | cons p l =>
       cases m with
       | nil =>
        exfalso; apply h
        have e1 : (((p :: l).length : Int) == 0) = false := beq_eq_false_iff_ne.2 (by rw [List.length_cons]; omega)
        rw [e1]; rfl
       | cons q m => simp at h'
     obtain ⟨rfl, rfl⟩ := hb
     rfl
    ·rw [if_neg h']
   rw [e]
   refine Ev.step (fun k => ?_) go
   rw [bM.l0, if_neg (by simp), if_neg h, mn_nat]; rfl
 have st : ∀ (i : Nat), i < 3 → ∀ {q : Int}, Ev (fun k => bM.l0 k [x, y, z] (([x, y, z] : List Int).length : Int) ((i + 1 : Nat) : Int) a b c l a' b' c' m) q → Ev (fun k => bM.l0 k [x, y, z] (([x, y, z] : List Int).length : Int) (i : Int) a b c l a' b' c' m) (if rd [x, y, z] (i : Int) = 0 then q else rd [x, y, z] (i : Int)) := by
  intro i hi q hq
  by_cases h : rd [x, y, z] (i : Int) = 0
  ·rw [if_pos h]
   refine Ev.step (fun k => ?_) hq
   rw [bM.l0, if_pos (by simp; omega), if_pos (by omega), if_pos (by simp; omega), if_pos h, wC i (by omega)]
  ·rw [if_neg h]
   refine Ev.step (f := fun _ => some (rd [x, y, z] (i : Int))) (fun k => ?_) (Ev.now _)
   rw [bM.l0, if_pos (by simp; omega), if_pos (by omega), if_pos (by simp; omega), if_neg h]
 exact st 0 (by omega) (st 1 (by omega) (st 2 (by omega) h3))
theorem E5 (l : B) : (aI l).2.2.2.1.length ≤ 5 ∧ ∀ x ∈ (aI l).2.2.2.1, o7 (L x) = true := by
 unfold aI
 split
 ·rename_i hc
  have hv : gY (jB l 0) (jB l 1) (jB l 2) (rU l) = true := by
   by_cases h : gY (jB l 0) (jB l 1) (jB l 2) (rU l) = true
   ·exact h
   ·exfalso
    have := hc.2
    unfold iZ at this
    rw [if_neg h] at this
    exact AO hc.1 this.symm
  obtain ⟨_, _, _, h5, h6⟩ := nC hv
  exact ⟨h5, h6⟩
 ·exact ⟨by simp [zeroV], fun x hx => by simp [zeroV] at hx⟩
theorem La (l : B) : ∀ x ∈ (aI l).2.2.2.1, x.size ≤ 1048576 := fun x hx => by
 have := sD ((E5 l).2 x hx)
 rw [fM]; omega
def yc (x y : B) : Int := xO (aI x).1 (aI x).2.1 (aI x).2.2.1 ((aI x).2.2.2.1.map L) (aI y).1 (aI y).2.1 (aI y).2.2.1 ((aI y).2.2.2.1.map L)
def verK (x : B) : List Int := kV (aI x).1 (aI x).2.1 (aI x).2.2.1 ((aI x).2.2.2.1.map L)
theorem TP : Keyed yc verK := fun x y => (lex_kV _ _ _ _ _ _ _ _).symm
theorem Lc : ∀ {l m : List ByteArray}, l.map L = m.map L → l = m
 | [], [], _ => rfl
 | [], _ :: _, h => by simp at h
 | _ :: _, [], h => by simp at h
 | x :: l, y :: m, h => by
  rw [List.map_cons, List.map_cons, List.cons.injEq] at h
  rw [mD h.1, Lc h.2]
theorem Zx {x y : B} (hx : dX x = true) (hy : dX y = true) (h : yc x y = 0) : x = y := by
 obtain ⟨a, b, c, p, e1, e2⟩ := qX hx
 obtain ⟨a', b', c', p', e3, e4⟩ := qX hy
 unfold yc at h
 rw [e2, e4] at h
 obtain ⟨h1, h2, h3, h4⟩ := Ws h
 have h4' := Lc h4
 simp only at h1 h2 h3 h4'
 rw [← e1, ← e3, h1, h2, h3, h4']
theorem tN (s t : ByteArray) (hs : s.size ≤ 1048576) (ht : t.size ≤ 1048576) : Ev (fun k => gK.f k s t) (yc (L s) (L t)) := by
 unfold gK.f
 have h1 := E5 (L s)
 have h2 := E5 (L t)
 exact Ev.bind (iD s hs) (Ev.bind (iD t ht) (Ev.bind (yZ _ _ _ _ _ _ _ _ (by omega) h1.2 h2.2) (Ev.now _)))
theorem zC (x y : B) : Ev (fun k => aC.f k (aI x).1 (aI x).2.1 (aI x).2.2.1 (aI x).2.2.2.1 (aI y).1 (aI y).2.1 (aI y).2.2.1 (aI y).2.2.2.1) (yc x y) :=
 lH _ _ _ _ _ _ _ _ (by have := (E5 x).1; omega) (La x) (La y)
theorem pG (c : UInt8) : ∀ (l p : B), c ∉ l → gJ c p l = [p ++ l] := by
 intro l
 induction l with
 | nil => intro p _; simp [gJ]
 | cons x l ih =>
  intro p h
  simp only [List.mem_cons, not_or] at h
  unfold gJ
  rw [if_neg (fun e => h.1 e.symm), ih _ h.2]; simp
theorem vI (c : UInt8) : ∀ (l p x : B), gJ c p l = [x] → x = p ++ l ∧ c ∉ l := by
 intro l
 induction l with
 | nil => intro p x h; simp only [gJ, List.cons.injEq, and_true] at h; subst h; simp
 | cons y l ih =>
  intro p x h
  unfold gJ at h
  by_cases hy : y = c
  ·rw [if_pos hy] at h
   have h2 := (List.cons.inj h).2
   have := (vN c l []).1
   rw [h2] at this; simp at this
  ·rw [if_neg hy] at h
   obtain ⟨h1, h2⟩ := ih _ _ h
   exact ⟨by rw [h1]; simp, by simp only [List.mem_cons, not_or]; exact ⟨fun e => hy e.symm, h2⟩⟩
theorem KR (c : UInt8) : ∀ (l p x : B) (r : List B), gJ c p l = x :: r → r ≠ [] → ∃ t, p ++ l = x ++ c :: t ∧ gJ c [] t = r ∧ ∀ q, x = p ++ q → c ∉ q := by
 intro l
 induction l with
 | nil => intro p x r h hr; simp only [gJ, List.cons.injEq] at h; exact absurd h.2.symm hr
 | cons y l ih =>
  intro p x r h hr
  unfold gJ at h
  by_cases hy : y = c
  ·rw [if_pos hy] at h
   obtain ⟨h1, h2⟩ := List.cons.inj h
   subst h1; subst hy
   refine ⟨l, rfl, h2, fun q hq => ?_⟩
   have : q = [] := by have := congrArg List.length hq; rw [List.length_append] at this; exact List.eq_nil_of_length_eq_zero (by omega)
   subst this; simp
  ·rw [if_neg hy] at h
   obtain ⟨t, h1, h2, h3⟩ := ih _ _ _ h hr
   refine ⟨t, by rw [← h1]; simp, h2, fun q hq => ?_⟩
   subst hq
   cases q with
   | nil => simp
   | cons z q =>
    have hz : z = y := by
     have := congrArg (fun w => (w.drop p.length).head?) h1
     simp at this; exact this.symm
    subst hz
    have := h3 q (by simp)
    simp only [List.mem_cons, not_or]
    exact ⟨fun e => hy e.symm, this⟩
theorem uq (c : UInt8) (x y : B) (h : c ∉ x) : gJ c [] (x ++ c :: y) = x :: gJ c [] y := by
 rw [QP, pG c x [] h]; rfl
theorem sG {n : Int} (h : 0 ≤ n) : ∀ x ∈ Lib.itoa n, yG x = true := by
 obtain ⟨u, rfl⟩ : ∃ u : Nat, n = u := ⟨n.toNat, by omega⟩
 rw [tJ]; exact EO u
theorem Zy (sep : B) : ∀ (q : List B) (x : UInt8), x ∈ Lib.join q sep → x ∈ sep ∨ ∃ y ∈ q, x ∈ y := by
 intro q
 cases q with
 | nil => intro x hx; rw [Lib.join_nil] at hx; simp at hx
 | cons y q =>
  intro x hx
  rw [Lib.join_cons, List.mem_append] at hx
  rcases hx with hx | hx
  ·exact .inr ⟨y, by simp, hx⟩
  ·unfold Lib.joinTail at hx
   obtain ⟨z, hz, hx⟩ := List.mem_flatten.1 hx
   obtain ⟨t, ht, rfl⟩ := List.mem_map.1 hz
   rcases List.mem_append.1 hx with hx | hx
   ·exact .inl hx
   ·exact .inr ⟨t, by simp [ht], hx⟩
theorem Zz : ∀ c : UInt8, yG c = true → TG c = true := by
 intro c; revert c; refine ru ?_; decide +kernel
theorem Nh {x : UInt8} (h : yG x = true) : TG x = true := Zz x h
theorem XE {l : B} (h : dX l = true) : ∀ x ∈ l, TG x = true ∨ x = 46 := by
 obtain ⟨a, b, c, p, h1, h2⟩ := qX h
 obtain ⟨hv, ht⟩ := rM h2
 obtain ⟨ha, hb, hc, h5, hp⟩ := nC hv
 rw [vY hv] at ht
 intro x hx
 rw [← ht, oN] at hx
 simp only [List.mem_append, List.mem_cons] at hx
 rcases hx with (hx | rfl | hx | rfl | hx) | hx
 ·exact .inl (Nh (sG ha.1 x hx))
 ·exact .inr rfl
 ·exact .inl (Nh (sG hb.1 x hx))
 ·exact .inr rfl
 ·exact .inl (Nh (sG hc.1 x hx))
 ·unfold wS at hx
  by_cases e : p = []
  ·rw [if_pos e] at hx; simp at hx
  ·rw [if_neg e] at hx
   rcases List.mem_cons.1 hx with rfl | hx
   ·exact .inl (by decide)
   ·rcases Zy _ _ _ hx with hx | ⟨y, hy, hx⟩
    ·rw [List.mem_singleton] at hx; exact .inr hx
    ·obtain ⟨z, hz, rfl⟩ := List.mem_map.1 hy
     have := hp z hz
     unfold o7 at this
     simp only [Bool.and_eq_true] at this
     exact .inl (List.all_eq_true.1 this.1 x hx)
theorem O7 {l : B} (h : dX l = true) (c : UInt8) (h1 : TG c = false) (h2 : c ≠ 46) : c ∉ l := fun hc => by
 rcases XE h c hc with h3 | h3
 ·rw [h1] at h3; cases h3
 ·exact h2 h3
theorem aac {x : UInt8} {r : B} (h : dX (x :: r) = true) : yG x = true := by
 obtain ⟨a, b, c, p, h1, h2⟩ := qX h
 obtain ⟨hv, ht⟩ := rM h2
 obtain ⟨ha, _⟩ := nC hv
 rw [vY hv, oN] at ht
 obtain ⟨u, rfl⟩ : ∃ u : Nat, a = u := ⟨a.toNat, by omega⟩
 have hne : Lib.itoa (u : Int) ≠ [] := by rw [tJ]; exact NZ u
 cases hl : Lib.itoa (u : Int) with
 | nil => exact absurd hl hne
 | cons y q =>
  rw [hl] at ht
  have : y = x := (List.cons.inj ht).1
  subst this
  exact sG ha.1 y (by rw [hl]; simp)
theorem UZ {x : UInt8} {r : B} (h : yG x = false) : dX (x :: r) = false := by
 rw [Bool.eq_false_iff]; intro e; rw [aac e] at h; cases h
theorem Nl (a : Int) : jC (a + 1) a = 1 := by unfold jC; rw [if_neg (by omega), if_pos (by omega)]
def ui (a b c q : Int) : B := iZ (FO a b c [] q).1 (FO a b c [] q).2.1 (FO a b c [] q).2.2 [zeroS]
theorem QY (a b c : Int) (p : List ByteArray) (q : Int) (h : gY a b c [] = true) (h0 : 0 ≤ q) (h2 : q ≤ 2) : Ev (fun k => eu.f k a b c p q) (S (ui a b c q), decide (ui a b c q ≠ [])) := by
 have hcmp : xO (FO a b c [] q).1 (FO a b c [] q).2.1 (FO a b c [] q).2.2 [] a b c [] ≠ 0 := by
  unfold FO xO
  by_cases q0 : q = 0
  ·simp only [if_pos q0, Nl]; simp
  ·by_cases q1 : q = 1
   ·simp only [if_neg q0, if_pos q1, Nl, pK]; simp
   ·simp only [if_neg q0, if_neg q1, List.length_nil, if_pos, Nl, pK]; simp
 have hself : xO a b c [] a b c [] = 0 := by unfold xO; simp only [pK]; rfl
 have hn := yJ a b c [] q (by simp) (by simp)
 unfold Fh at hn
 have hz : gY (FO a b c [] q).1 (FO a b c [] q).2.1 (FO a b c [] q).2.2 [zeroS] = gY (FO a b c [] q).1 (FO a b c [] q).2.1 (FO a b c [] q).2.2 [] := Cf
 have hnil := xn (FO a b c [] q).1 (FO a b c [] q).2.1 (FO a b c [] q).2.2 [zeroS]
 rw [hz] at hnil
 unfold eu.f
 refine kH ?_
 by_cases e : gY (FO a b c [] q).1 (FO a b c [] q).2.1 (FO a b c [] q).2.2 [] = true
 ·rw [if_pos ⟨h, h0, h2, e⟩] at hn
  rw [decide_eq_true (show ui a b c q ≠ [] from fun z => hnil.1 z e)]
  refine Ev.bind hn (Ev.bind (lH _ _ _ [] a b c [] (by simp) (by simp) (by simp)) (aY (by exact hcmp) ?_))
  exact Ev.bind (lF _ _ _ [zeroS] (by simp) (fun x hx => by rw [List.mem_singleton] at hx; subst hx; decide)) (Ev.now _)
 ·rw [if_neg (fun z => e z.2.2.2)] at hn
  have hu : ui a b c q = [] := hnil.2 e
  rw [decide_eq_false (show ¬ ui a b c q ≠ [] from fun z => z hu), hu]
  exact Ev.bind hn (Ev.bind (lH _ _ _ [] a b c [] (by simp) (by simp) (by simp)) (aK (by exact hself) (Ev.now _)))
theorem XF {x : B} (h : 45 ∉ x) : idx x 45 = -1 := by
 induction x with
 | nil => rfl
 | cons y x ih =>
  simp only [List.mem_cons, not_or] at h
  rw [oZ, if_neg (fun e => h.1 e.symm), ih h.2, if_pos rfl]
theorem FU {x : B} (h : 45 ∈ x) : cu x = -1 := JL ⟨45, h, by decide⟩
theorem AP {x : B} (h : 0 ≤ cu x) : Lib.itoa (cu x) = x ∧ cu x ≤ 999999999 := by
 obtain ⟨u, h1, h2, h3⟩ := qf (l := x) (by omega)
 rw [h3, tJ, h2]; exact ⟨rfl, by omega⟩
theorem Cj {x y : B} (h : 45 ∈ x) : ∃ t, jI (x ++ y) = t ∧ ∃ u, x = t ++ 45 :: u := by
 induction x with
 | nil => simp at h
 | cons z x ih =>
  by_cases hz : z = 45
  ·subst hz
   refine ⟨[], ?_, x, rfl⟩
   unfold jI
   rw [List.cons_append, oZ, if_pos rfl]; rfl
  ·have hx : 45 ∈ x := by
    rcases List.mem_cons.1 h with h | h
    ·exact absurd h.symm hz
    ·exact h
   obtain ⟨t, h1, u, h2⟩ := ih hx
   refine ⟨z :: t, ?_, u, by rw [h2]; rfl⟩
   rw [← h1]
   have hge : 0 ≤ idx (x ++ y) 45 := by
    by_cases e : 0 ≤ idx (x ++ y) 45
    ·exact e
    ·exfalso
     have e1 : idx (x ++ y) 45 = -1 := by have := FH (x ++ y) 45; omega
     clear h1 h2 ih h
     have : ∀ w : B, 45 ∈ w → idx w 45 ≠ -1 := by
      intro w
      induction w with
      | nil => intro h; simp at h
      | cons a w ihw =>
       intro h
       rw [oZ]
       by_cases ha : a = 45
       ·rw [if_pos ha]; decide
       ·rw [if_neg ha]
        have := ihw ((List.mem_cons.1 h).resolve_left fun e => ha e.symm)
        rw [if_neg this]
        have := FH w 45
        omega
     exact this (x ++ y) (by simp [hx]) e1
   unfold jI
   rw [List.cons_append, oZ, if_neg hz, if_neg (show ¬ idx (x ++ y) 45 = -1 by omega), if_pos (show 0 ≤ idx (x ++ y) 45 + 1 by omega), if_pos hge]
   have : (idx (x ++ y) 45 + 1).toNat = (idx (x ++ y) 45).toNat + 1 := by omega
   rw [this]; rfl
theorem FV : cu [48] = 0 := by decide +kernel
theorem JS {x y z : B} (hx : 46 ∉ x) (hy : 46 ∉ y) (hz : 46 ∉ z) (h45 : 45 ∉ x ++ 46 :: (y ++ 46 :: z)) :
  aI (x ++ 46 :: (y ++ 46 :: z)) = if 0 ≤ cu x ∧ 0 ≤ cu y ∧ 0 ≤ cu z then (cu x, cu y, cu z, [], true) else zeroV := by
 have hi := XF h45
 have hh : jI (x ++ 46 :: (y ++ 46 :: z)) = x ++ 46 :: (y ++ 46 :: z) := by unfold jI; rw [hi, if_neg (by decide)]
 have hp : rU (x ++ 46 :: (y ++ 46 :: z)) = [] := by unfold rU; rw [hi, if_neg (by decide)]
 have hc : gJ 46 [] (x ++ 46 :: (y ++ 46 :: z)) = [x, y, z] := by rw [uq 46 x _ hx, uq 46 y z hy, pG 46 z [] hz]; rfl
 have h0 : jB (x ++ 46 :: (y ++ 46 :: z)) 0 = cu x := by unfold jB; rw [hh, hc]; rfl
 have h1 : jB (x ++ 46 :: (y ++ 46 :: z)) 1 = cu y := by unfold jB; rw [hh, hc]; rfl
 have h2 : jB (x ++ 46 :: (y ++ 46 :: z)) 2 = cu z := by unfold jB; rw [hh, hc]; rfl
 unfold aI
 rw [hh, hc, h0, h1, h2, hp]
 by_cases h : 0 ≤ cu x ∧ 0 ≤ cu y ∧ 0 ≤ cu z
 ·obtain ⟨a1, a2⟩ := AP h.1
  obtain ⟨b1, b2⟩ := AP h.2.1
  obtain ⟨c1, c2⟩ := AP h.2.2
  have hv : gY (cu x) (cu y) (cu z) [] = true := by
   unfold gY uJ
   rw [decide_eq_true ⟨h.1, a2⟩, decide_eq_true ⟨h.2.1, b2⟩, decide_eq_true ⟨h.2.2, c2⟩]; rfl
  rw [if_pos h, if_pos ⟨rfl, by rw [vY hv, oN, a1, b1, c1]; exact List.append_nil _⟩]
 ·rw [if_neg h, if_neg]
  rintro ⟨_, h3⟩
  have hv : ¬ gY (cu x) (cu y) (cu z) [] = true := fun e => h ⟨(nC e).1.1, (nC e).2.1.1, (nC e).2.2.1.1⟩
  rw [tK hv] at h3
  simp at h3
theorem FW {l : B} (h : (gJ 46 [] (jI l)).length ≠ 3) : aI l = zeroV := by unfold aI; rw [if_neg (fun z => h z.1)]
theorem JU {x : B} (h : 45 ∉ x) (r : B) : jI (x ++ r) = x ++ jI r := by
 induction x with
 | nil => rfl
 | cons z x ih =>
  simp only [List.mem_cons, not_or] at h
  have ih := ih h.2
  have hz : ¬ z = 45 := fun e => h.1 e.symm
  rw [List.cons_append, List.cons_append, ← ih]
  have hge := FH (x ++ r) 45
  unfold jI
  rw [oZ, if_neg hz]
  by_cases e : idx (x ++ r) 45 = -1
  ·rw [if_pos e, if_neg (by decide), e, if_neg (by decide)]
  ·rw [if_neg e, if_pos (show 0 ≤ idx (x ++ r) 45 + 1 by omega), if_pos (show 0 ≤ idx (x ++ r) 45 by omega), show (idx (x ++ r) 45 + 1).toNat = (idx (x ++ r) 45).toNat + 1 by omega]
   rfl
theorem FX {x : B} (hx : 46 ∉ x) : aI (x ++ [46, 48, 46, 48]) = if 0 ≤ cu x then (cu x, 0, 0, [], true) else zeroV := by
 by_cases h : 45 ∈ x
 ·rw [FU h, if_neg (by decide)]
  obtain ⟨t, h1, u, h2⟩ := Cj (y := [46, 48, 46, 48]) h
  refine FW ?_
  rw [h1, pG 46 t [] (fun e => hx (by rw [h2]; simp [e]))]; simp
 ·have := JS (x := x) (y := [48]) (z := [48]) hx (by decide) (by decide) (by simp [h])
  rw [FV] at this
  refine this.trans ?_
  by_cases e : 0 ≤ cu x
  ·rw [if_pos ⟨e, by decide, by decide⟩, if_pos e]
  ·rw [if_neg (fun z => e z.1), if_neg e]
theorem FY {x y : B} (hx : 46 ∉ x) (hy : 46 ∉ y) : aI (x ++ 46 :: y ++ [46, 48]) = if 0 ≤ cu x ∧ 0 ≤ cu y then (cu x, cu y, 0, [], true) else zeroV := by
 rw [List.append_assoc, List.cons_append]
 by_cases h : 45 ∈ x
 ·rw [FU h, if_neg (fun z => absurd z.1 (by decide))]
  obtain ⟨t, h1, u, h2⟩ := Cj (y := 46 :: (y ++ [46, 48])) h
  refine FW ?_
  rw [h1, pG 46 t [] (fun e => hx (by rw [h2]; simp [e]))]; simp
 ·by_cases h2 : 45 ∈ y
  ·rw [FU h2, if_neg (fun z => absurd z.2 (by decide))]
   obtain ⟨t, h1, u, h3⟩ := Cj (y := [46, 48]) h2
   refine FW ?_
   have e : x ++ 46 :: (y ++ [46, 48]) = (x ++ [46]) ++ (y ++ [46, 48]) := by simp
   rw [e, JU (by simp [h]) _, h1, List.append_assoc]
   show (gJ 46 [] (x ++ 46 :: t)).length ≠ 3
   rw [uq 46 x t hx, pG 46 t [] (fun e => hy (by rw [h3]; simp [e]))]; simp
  ·have := JS (x := x) (y := y) (z := [48]) hx hy (by decide) (by simp [h, h2])
   rw [FV] at this
   refine this.trans ?_
   by_cases e : 0 ≤ cu x ∧ 0 ≤ cu y
   ·rw [if_pos ⟨e.1, e.2, by decide⟩, if_pos e]
   ·rw [if_neg (fun z => e ⟨z.1, z.2.1⟩), if_neg e]
abbrev eS : ByteArray := ⟨#[]⟩
def vJ (l : B) : ByteArray × ByteArray × Bool :=
 match gJ 46 [] l with
 | [x] => if 0 ≤ cu x ∧ ui (cu x) 0 0 0 ≠ [] then (S (l ++ [46, 48, 46, 48]), S (ui (cu x) 0 0 0), true) else (eS, eS, false)
 | [x, y] => if (0 ≤ cu x ∧ 0 ≤ cu y) ∧ ui (cu x) (cu y) 0 1 ≠ [] then (S (l ++ [46, 48]), S (ui (cu x) (cu y) 0 1), true) else (eS, eS, false)
 | _ => (eS, eS, false)
def Ff (l : B) : ByteArray × ByteArray × Bool :=
 match gJ 46 [] l with
 | [x] => if 0 ≤ cu x then (S (l ++ [46, 48, 46, 48]), S (ui (cu x) 0 0 0), true) else (eS, eS, false)
 | [x, y] => if 0 ≤ cu x ∧ 0 ≤ cu y then (S (l ++ [46, 48]), S (ui (cu x) (cu y) 0 1), true) else (eS, eS, false)
 | _ => (eS, eS, false)
theorem yf {l x y : B} (h : gJ 46 [] l = [x, y]) : l = x ++ 46 :: y ∧ 46 ∉ x ∧ 46 ∉ y := by
 obtain ⟨t, h1, h2, h3⟩ := KR 46 l [] x [y] h (by simp)
 obtain ⟨h4, h5⟩ := vI 46 t [] y h2
 rw [List.nil_append] at h1 h4
 subst h4
 exact ⟨h1, h3 x (by simp), h5⟩
theorem QZ (s : ByteArray) (hs : s.size ≤ 1000) : Ev (fun k => ak.f k s) (vJ (L s)) := by
 have ec : Ev (fun k => dF.f k s 46) _ := mf s 46 (by omega)
 have hsz := fM s
 have z4 : (s ++ (⟨#[46, 48, 46, 48]⟩ : ByteArray)) = S (L s ++ [46, 48, 46, 48]) := by apply mD; rw [kX, lQ]; rfl
 have z2 : (s ++ (⟨#[46, 48]⟩ : ByteArray)) = S (L s ++ [46, 48]) := by apply mD; rw [kX, lQ]; rfl
 have off : ∀ (w : List ByteArray) (u : ByteArray) (f : Bool) (a b c : Int) (p : List ByteArray), f = true → Ev (fun k => ak.j1 k w u f a b c p) (eS, eS, false) := fun w u f a b c p hf =>
  Ev.step (f := fun _ => some (eS, eS, false)) (fun k => by rw [ak.j1, if_pos hf]) (Ev.now _)
 have key : ∀ (w : List ByteArray) (u : B) (a b c : Int), u.length ≤ 1048576 → aI u = (a, b, c, [], true) → (w.length : Int) = 1 ∨ (w.length : Int) = 2 → Ev (fun k => ak.j0 k w (S u)) (if ui a b c ((w.length : Int) - 1) ≠ [] then (S u, S (ui a b c ((w.length : Int) - 1)), true) else (eS, eS, false)) := by
  intro w u a b c hu hr hw
  have er := eX (S u) (by rw [fD]; omega)
  rw [lQ, hr] at er
  have hb := QY a b c [] ((w.length : Int) - 1) (rM hr).1 (by omega) (by omega)
  refine Ev.step (fun k => by rw [ak.j0]) (Ev.bind er (aK rfl (bn (jJ _ _ _) (aK (show decide (1 ≤ (w.length : Int) ∧ (w.length : Int) ≤ 2) = true from decide_eq_true (by omega)) ?_))))
  refine Ev.step (fun k => by rw [ak.j1, if_neg (by simp), rO (n := (w.length : Int) - 1) (by omega) (by omega)]) (Ev.bind hb ?_)
  by_cases e : ui a b c ((w.length : Int) - 1) ≠ []
  ·rw [if_pos e]; exact aK (decide_eq_true e) (Ev.now _)
  ·rw [if_neg e]; exact aY (by rw [decide_eq_true_eq]; exact e) (Ev.now _)
 have bad : ∀ (w : List ByteArray) (u : B), u.length ≤ 1048576 → (¬ (aI u).2.2.2.2 = true ∨ ¬ (1 ≤ (w.length : Int) ∧ (w.length : Int) ≤ 2)) → Ev (fun k => ak.j0 k w (S u)) (eS, eS, false) := by
  intro w u hu h
  have er := eX (S u) (by rw [fD]; omega)
  rw [lQ] at er
  by_cases h1 : (aI u).2.2.2.2 = true
  ·have h2 := h.resolve_left (fun z => z h1)
   exact Ev.step (fun k => by rw [ak.j0]) (Ev.bind er (aK h1 (bn (jJ _ _ _) (aY (show ¬ decide (1 ≤ (w.length : Int) ∧ (w.length : Int) ≤ 2) = true by rw [decide_eq_true_eq]; exact h2) (off _ _ _ _ _ _ _ rfl)))))
  ·exact Ev.step (fun k => by rw [ak.j0]) (Ev.bind er (aY h1 (off _ _ _ _ _ _ _ rfl)))
 have l4 : (L s ++ [46, 48, 46, 48]).length ≤ 1048576 := by rw [List.length_append]; simp; omega
 have l2 : (L s ++ [46, 48]).length ≤ 1048576 := by rw [List.length_append]; simp; omega
 unfold ak.f vJ
 refine Ev.bind ec (aK (by omega) ?_)
 cases hw : gJ 46 [] (L s) with
 | nil => have := (vN 46 (L s) []).1; rw [hw] at this; simp at this
 | cons x r =>
  cases r with
  | nil =>
   obtain ⟨h1, h2⟩ := vI 46 _ _ _ hw
   rw [List.nil_append] at h1
   refine aK (by simp) (aK (by omega) ?_)
   rw [z4]
   have hr := FX (x := L s) h2
   rw [h1]
   by_cases e : 0 ≤ cu (L s)
   ·rw [if_pos e] at hr
    have := key [S (L s)] _ _ _ _ l4 hr (.inl rfl)
    refine eH this ?_
    by_cases e2 : ui (cu (L s)) 0 0 0 ≠ []
    ·show (if ui (cu (L s)) 0 0 0 ≠ [] then _ else _) = if 0 ≤ cu (L s) ∧ ui (cu (L s)) 0 0 0 ≠ [] then _ else _
     rw [if_pos e2, if_pos ⟨e, e2⟩]; rfl
    ·show (if ui (cu (L s)) 0 0 0 ≠ [] then _ else _) = if 0 ≤ cu (L s) ∧ ui (cu (L s)) 0 0 0 ≠ [] then _ else _
     rw [if_neg e2, if_neg (fun z => e2 z.2)]
   ·rw [if_neg e] at hr
    refine eH (bad [S (L s)] _ l4 (.inl (by rw [hr]; simp [zeroV]))) ?_
    show _ = if 0 ≤ cu (L s) ∧ ui (cu (L s)) 0 0 0 ≠ [] then _ else _
    rw [if_neg (fun z => e z.1)]
  | cons y r =>
   refine aY (by simp only [List.map_cons, List.length_cons]; omega) ?_
   rw [z2]
   cases r with
   | nil =>
    obtain ⟨h1, h2, h3⟩ := yf hw
    have hr := FY h2 h3
    rw [← h1] at hr
    by_cases e : 0 ≤ cu x ∧ 0 ≤ cu y
    ·rw [if_pos e] at hr
     have := key [S x, S y] _ _ _ _ l2 hr (.inr rfl)
     refine eH this ?_
     by_cases e2 : ui (cu x) (cu y) 0 1 ≠ []
     ·show (if ui (cu x) (cu y) 0 1 ≠ [] then _ else _) = if (0 ≤ cu x ∧ 0 ≤ cu y) ∧ ui (cu x) (cu y) 0 1 ≠ [] then _ else _
      rw [if_pos e2, if_pos ⟨e, e2⟩]; rfl
     ·show (if ui (cu x) (cu y) 0 1 ≠ [] then _ else _) = if (0 ≤ cu x ∧ 0 ≤ cu y) ∧ ui (cu x) (cu y) 0 1 ≠ [] then _ else _
      rw [if_neg e2, if_neg (fun z => e2 z.2)]
    ·rw [if_neg e] at hr
     refine eH (bad [S x, S y] _ l2 (.inl (by rw [hr]; simp [zeroV]))) ?_
     show _ = if (0 ≤ cu x ∧ 0 ≤ cu y) ∧ ui (cu x) (cu y) 0 1 ≠ [] then _ else _
     rw [if_neg (fun z => e z.1)]
   | cons z r => exact bad _ _ l2 (.inr (by simp only [List.map_cons, List.length_cons]; omega))
theorem vt0 (a b c : Int) : Ev (fun k => bU.f k a b c ([] : List ByteArray)) (S (iZ a b c [])) := kD a b c [] (by simp) (by simp)
theorem CG (s : ByteArray) (hs : s.size ≤ 1000) : Ev (fun k => af.f k s) (Ff (L s)) := by
 have hsz := fM s
 have esp : strings_Split.f s (⟨#[46]⟩ : ByteArray) = some ((gJ 46 [] (L s)).map S) := FD s 46 (by omega)
 unfold af.f Ff
 refine bn esp ?_
 cases hw : gJ 46 [] (L s) with
 | nil => have := (vN 46 (L s) []).1; rw [hw] at this; simp at this
 | cons x r =>
  have hlen : ∀ y ∈ gJ 46 [] (L s), y.length ≤ 1000 := fun y hy => by have := EY 46 _ _ _ hy; simp at this; omega
  rw [hw] at hlen
  have hx : dm.f (S x) = some (cu x) := by
   have := qM (S x) (by rw [fD]; have := hlen x (by simp); omega)
   rw [lQ] at this; exact this
  cases r with
  | nil =>
   obtain ⟨h1, h2⟩ := vI 46 _ _ _ hw
   rw [List.nil_append] at h1
   refine aY (by simp) ?_
   have e0 : iE ByteArray.empty (List.map S [x]) 0 = S x := rfl
   by_cases e : cu x < 0
   ·refine eH (Ev.step (f := fun _ => some (eS, eS, false)) (fun k => by
     rw [af.l0, if_pos (by simp), if_pos (by omega), if_pos (by simp), e0, hx, Option.bind_some, if_pos (by simp), Option.bind_some]
     show (if cu x < 0 then _ else _) = _
     rw [if_pos e]) (Ev.now _)) ?_
    show _ = if 0 ≤ cu x then _ else _
    rw [if_neg (by omega)]
   ·have hr := FX (x := L s) h2
    rw [← h1] at hr
    rw [if_pos (by omega)] at hr
    obtain ⟨_, ht⟩ := rM hr
    obtain ⟨_, h9⟩ := AP (x := x) (by omega)
    have go : Ev (fun k => af.l0 k (List.map S [x]) [cu x, 0] (List.map S [x]) (((List.map S [x]).length : Nat) : Int) ((1 : Nat) : Int)) (S (x ++ [46, 48, 46, 48]), S (ui (cu x) 0 0 0), true) := by
     refine Ev.step (fun k => by rw [af.l0, if_neg (by simp), if_pos (by simp), if_pos (by simp)]) ?_
     have hv := vt0 (cu x) 0 0
     rw [ht] at hv
     refine Ev.bind hv (Ev.bind (vZ _ _ _) (aK (by simp) ?_))
     have hz := vZ (wrap64 (cu x + 1)) 0 0
     rw [rO (n := cu x + 1) (by omega) (by omega)] at hz
     exact Ev.bind (show Ev (fun k => dM.f k (wrap64 (rd [cu x, 0] 0 + 1)) 0 0) _ by show Ev (fun k => dM.f k (wrap64 (cu x + 1)) 0 0) _; rw [rO (n := cu x + 1) (by omega) (by omega)]; exact hz) (Ev.now _)
    refine eH (Ev.step (fun k => by
     rw [af.l0, if_pos (by simp), if_pos (by omega), if_pos (by simp), e0, hx, Option.bind_some, if_pos (by simp), Option.bind_some]
     show (if cu x < 0 then _ else _) = _
     rw [if_neg e, show wrap64 ((0 : Int) + 1) = ((1 : Nat) : Int) by rw [rO (by omega) (by omega)]; rfl]; rfl) go) ?_
    show _ = if 0 ≤ cu x then _ else _
    rw [if_pos (by omega), ← h1]
  | cons y r =>
   cases r with
   | nil =>
    obtain ⟨h1, h2, h3⟩ := yf hw
    refine aY (by simp) ?_
    have hy : dm.f (S y) = some (cu y) := by
     have := qM (S y) (by rw [fD]; have := hlen y (by simp); omega)
     rw [lQ] at this; exact this
    have e0 : iE ByteArray.empty (List.map S [x, y]) 0 = S x := rfl
    have e1 : iE ByteArray.empty (List.map S [x, y]) ((1 : Nat) : Int) = S y := rfl
    by_cases e : cu x < 0
    ·refine eH (Ev.step (f := fun _ => some (eS, eS, false)) (fun k => by
      rw [af.l0, if_pos (by simp), if_pos (by omega), if_pos (by simp), e0, hx, Option.bind_some, if_pos (by simp), Option.bind_some]
      show (if cu x < 0 then _ else _) = _
      rw [if_pos e]) (Ev.now _)) ?_
     show _ = if 0 ≤ cu x ∧ 0 ≤ cu y then _ else _
     rw [if_neg (by omega)]
    ·have go : Ev (fun k => af.l0 k (List.map S [x, y]) [cu x, 0] (List.map S [x, y]) (((List.map S [x, y]).length : Nat) : Int) ((1 : Nat) : Int)) (if 0 ≤ cu x ∧ 0 ≤ cu y then (S (L s ++ [46, 48]), S (ui (cu x) (cu y) 0 1), true) else (eS, eS, false)) := by
      by_cases e2 : cu y < 0
      ·rw [if_neg (by omega)]
       exact Ev.step (f := fun _ => some (eS, eS, false)) (fun k => by
        rw [af.l0, if_pos (by simp), if_pos (by omega), if_pos (by simp), e1, hy, Option.bind_some, if_pos (by simp), Option.bind_some]
        show (if cu y < 0 then _ else _) = _
        rw [if_pos e2]) (Ev.now _)
      ·rw [if_pos (by omega)]
       have hr := FY h2 h3
       rw [← h1, if_pos (by omega)] at hr
       obtain ⟨_, ht⟩ := rM hr
       obtain ⟨_, h9⟩ := AP (x := y) (by omega)
       refine Ev.step (f := fun k => af.l0 k (List.map S [x, y]) [cu x, cu y] (List.map S [x, y]) (((List.map S [x, y]).length : Nat) : Int) ((2 : Nat) : Int)) (fun k => by
        rw [af.l0, if_pos (by simp), if_pos (by omega), if_pos (by simp), e1, hy, Option.bind_some, if_pos (by simp), Option.bind_some]
        show (if cu y < 0 then _ else _) = _
        rw [if_neg e2, show wrap64 (((1 : Nat) : Int) + 1) = ((2 : Nat) : Int) by rw [rO (by omega) (by omega)]; rfl]; rfl) ?_
       refine Ev.step (fun k => by rw [af.l0, if_neg (by simp), if_pos (by simp), if_pos (by simp)]) ?_
       have hv := vt0 (cu x) (cu y) 0
       rw [ht] at hv
       have hz := vZ (cu x) (cu y + 1) 0
       refine Ev.bind hv (Ev.bind (show Ev (fun k => dM.f k (rd [cu x, cu y] 0) (wrap64 (rd [cu x, cu y] 1 + 1)) 0) (S (ui (cu x) (cu y) 0 1)) by show Ev (fun k => dM.f k (cu x) (wrap64 (cu y + 1)) 0) _; rw [rO (n := cu y + 1) (by omega) (by omega)]; exact hz) (aY (show ¬ (((List.map S [x, y]).length : Nat) : Int) = 1 by simp) (Ev.now _)))
     refine eH (Ev.step (fun k => by
      rw [af.l0, if_pos (by simp), if_pos (by omega), if_pos (by simp), e0, hx, Option.bind_some, if_pos (by simp), Option.bind_some]
      show (if cu x < 0 then _ else _) = _
      rw [if_neg e, show wrap64 ((0 : Int) + 1) = ((1 : Nat) : Int) by rw [rO (by omega) (by omega)]; rfl]; rfl) go) ?_
     rfl
   | cons z r => exact aK (by simp only [List.map_cons, List.length_cons]; omega) (Ev.now _)
theorem Q4 {α : Type} (l : List α) (z : α) (p : α → Bool) (g : Nat → Int → Option Bool) (hend : Ev (fun k => g k (l.length : Int)) false)
  (hstep : ∀ (i : Nat) (r : Bool), i < l.length → Ev (fun k => g k ((i + 1 : Nat) : Int)) r → Ev (fun k => g k (i : Int)) (p (l.getD i z) || r)) : Ev (fun k => g k 0) (l.any p) := by
 have key : ∀ d i, i + d = l.length → Ev (fun k => g k (i : Int)) ((l.drop i).any p) := by
  intro d
  induction d with
  | zero =>
   intro i hi
   have e : i = l.length := by omega
   subst e
   rw [List.drop_length]; exact hend
  | succ d ih =>
   intro i hi
   rw [mg l i z (by omega), List.any_cons]
   exact hstep i _ (by omega) (ih (i + 1) (by omega))
 have := key l.length 0 (by omega)
 exact this
def JV (x y : B) : Bool := decide ((aI x).2.2.2.1 = []) || (decide ((aI y).2.2.2.1 ≠ []) && (decide ((aI y).1 = (aI x).1) && (decide ((aI y).2.1 = (aI x).2.1) && decide ((aI y).2.2.1 = (aI x).2.2.1))))
def outB (x : B) (b : iR) : Bool := (dX (L b.f0) && decide (yc x (L b.f0) < 0)) || (dX (L b.f1) && decide (0 ≤ yc x (L b.f1)))
def GR (x : B) (b : iR) : Bool := !outB x b && JV x (L b.f0)
def inL (x : B) (r : List iR) : Bool := (dX x && jA r) && r.any (GR x)
theorem fin_eq (a b c a' b' c' : Int) (p q : List ByteArray) : (if (p.length : Int) = 0 then some true else (if (q.length : Int) > 0 then (if a' = a then (if b' = b then some (c' == c) else some false) else some false) else some false)) = some (decide (p = []) || (decide (q ≠ []) && (decide (a' = a) && (decide (b' = b) && decide (c' = c))))) := by
 cases p with
 | nil => rw [if_pos (by simp)]; simp
 | cons x p =>
  rw [if_neg (by rw [List.length_cons]; omega)]
  cases q with
  | nil => rw [if_neg (by simp)]; simp
  | cons y q =>
   rw [if_pos (by rw [List.length_cons]; omega)]
   by_cases h1 : a' = a
   ·rw [if_pos h1]
    by_cases h2 : b' = b
    ·rw [if_pos h2]; by_cases h3 : c' = c <;> simp [h1, h2, h3]
    ·rw [if_neg h2]; simp [h2]
   ·rw [if_neg h1]; simp [h1]
theorem fin_no (p : List ByteArray) : (if (p.length : Int) = 0 then some true else some false) = some (decide (p = [])) := by
 cases p with
 | nil => rw [if_pos (by simp)]; simp
 | cons x p => rw [if_neg (by rw [List.length_cons]; omega)]; simp
theorem no_pre {y : B} (h : ¬ dX y = true) : (aI y).2.2.2.1 = [] := by
 unfold dX at h
 unfold aI at h ⊢
 split at h
 ·exact absurd rfl h
 ·rename_i hc; rw [if_neg hc]; rfl
theorem finB_no {x y : B} (h : ¬ dX y = true) : JV x y = decide ((aI x).2.2.2.1 = []) := by
 unfold JV; rw [no_pre h]; simp
theorem Bf (x hi : B) {f : Nat → Option Bool} {q : Bool} (hf : Ev f q) : Ev (fun k => if (aI hi).2.2.2.2 = true then ((aC.f k (aI x).1 (aI x).2.1 (aI x).2.2.1 (aI x).2.2.2.1 (aI hi).1 (aI hi).2.1 (aI hi).2.2.1 (aI hi).2.2.2.1).bind fun t => if t ≥ 0 then some false else f k) else f k) (!(dX hi && decide (0 ≤ yc x hi)) && q) := by
 by_cases h : dX hi = true
 ·rw [h, Bool.true_and]
  refine aK h (Ev.bind (zC x hi) ?_)
  by_cases h2 : 0 ≤ yc x hi
  ·rw [decide_eq_true h2]; exact aK h2 (Ev.now _)
  ·rw [decide_eq_false h2]; exact aY h2 hf
 ·have h' : dX hi = false := by simpa using h
  rw [h']; exact aY h hf
theorem FZ (x : B) (b0 b1 : ByteArray) (h0 : b0.size ≤ 1048576) (h1 : b1.size ≤ 1048576) : Ev (fun k => lK.f k b0 b1 (aI x).1 (aI x).2.1 (aI x).2.2.1 (aI x).2.2.2.1) (GR x ⟨b0, b1⟩) := by
 unfold lK.f GR outB
 refine Ev.bind (eX b0 h0) (Ev.bind (eX b1 h1) ?_)
 show Ev _ (!((dX (L b0) && decide (yc x (L b0) < 0)) || (dX (L b1) && decide (0 ≤ yc x (L b1)))) && JV x (L b0))
 rw [fin_eq, fin_no, Bool.not_or, Bool.and_assoc]
 by_cases h : dX (L b0) = true
 ·rw [h, Bool.true_and]
  refine aK h (Ev.bind (zC x (L b0)) ?_)
  by_cases h2 : yc x (L b0) < 0
  ·rw [decide_eq_true h2]; exact aK h2 (Ev.now _)
  ·rw [decide_eq_false h2]
   exact aY h2 (Bf x (L b1) (Ev.now _))
 ·have h' : dX (L b0) = false := by simpa using h
  rw [h', finB_no h]
  exact aY h (Bf x (L b1) (Ev.now _))
theorem RZ (s : ByteArray) (l : List iR) (hsz : s.size ≤ 1048576) (hl : l.length ≤ 1048576) (hs : ∀ b ∈ l, b.f0.size ≤ 1048576 ∧ b.f1.size ≤ 1048576) : Ev (fun k => jo.f k s l) (inL (L s) l) := by
 unfold jo.f
 refine Ev.bind (eX s hsz) ?_
 have go : Ev (fun k => jo.l0 k l (dX (L s)) 0 (aI (L s)).1 (aI (L s)).2.1 (aI (L s)).2.2.1 (aI (L s)).2.2.2.1) (l.any fun b => (dX (L s) && jA l) && GR (L s) b) := by
  refine Q4 l z67 _ (fun k i => jo.l0 k l (dX (L s)) i (aI (L s)).1 (aI (L s)).2.1 (aI (L s)).2.2.1 (aI (L s)).2.2.2.1) ?_ ?_
  ·exact Ev.step (f := fun _ => some false) (fun k => by show jo.l0 (k + 1) l _ _ _ _ _ _ = _; rw [jo.l0, if_neg (by omega)]) (Ev.now _)
  ·intro i r hi hr
   have hm := hs _ (getD_mem l i z67 hi)
   have ee : dS l (i : Int) = l.getD i z67 := rfl
   refine Ev.step (f := fun k => if dX (L s) = true then ((bZ.f k l).bind fun t => if t = true then ((lK.f k (l.getD i z67).f0 (l.getD i z67).f1 (aI (L s)).1 (aI (L s)).2.1 (aI (L s)).2.2.1 (aI (L s)).2.2.2.1).bind fun u => if u = true then some true else jo.l0 k l (dX (L s)) ((i + 1 : Nat) : Int) (aI (L s)).1 (aI (L s)).2.1 (aI (L s)).2.2.1 (aI (L s)).2.2.2.1) else jo.l0 k l (dX (L s)) ((i + 1 : Nat) : Int) (aI (L s)).1 (aI (L s)).2.1 (aI (L s)).2.2.1 (aI (L s)).2.2.2.1) else jo.l0 k l (dX (L s)) ((i + 1 : Nat) : Int) (aI (L s)).1 (aI (L s)).2.1 (aI (L s)).2.2.1 (aI (L s)).2.2.2.1) (fun k => ?_) ?_
   ·show jo.l0 (k + 1) l _ _ _ _ _ _ = _
    rw [jo.l0, if_pos (by omega), if_pos (show (0 : Int) ≤ (i : Int) by omega), ee, wC i (by omega)]
   ·generalize l.getD i z67 = b at hm ⊢
    by_cases h1 : dX (L s) = true
    ·rw [h1] at hr ⊢
     rw [Bool.true_and]
     refine aK rfl (Ev.bind (nY l hl hs) ?_)
     by_cases h2 : jA l = true
     ·rw [h2, Bool.true_and]
      refine aK rfl (Ev.bind (FZ (L s) b.f0 b.f1 hm.1 hm.2) ?_)
      show Ev _ (GR (L s) ⟨b.f0, b.f1⟩ || r)
      by_cases h3 : GR (L s) ⟨b.f0, b.f1⟩ = true
      ·rw [h3, Bool.true_or]; exact aK rfl (Ev.now _)
      ·have h3' : GR (L s) ⟨b.f0, b.f1⟩ = false := by simpa using h3
       rw [h3', Bool.false_or]; exact aY (by simp) hr
     ·have h2' : jA l = false := by simpa using h2
      rw [h2', Bool.false_and, Bool.false_or]; exact aY (by simp) hr
    ·have h1' : dX (L s) = false := by simpa using h1
     rw [h1'] at hr ⊢
     rw [Bool.false_and, Bool.false_and, Bool.false_or]; exact aY (by simp) hr
 refine eH go ?_
 unfold inL
 cases dX (L s) && jA l with
 | true => simp
 | false => simp
theorem TQ (s : ByteArray) (l : List iR) (n i : Int) (flag : Bool) (b0 b1 : ByteArray) (h0 : b0.size ≤ 1048576) {r : Bool} (hr : Ev (fun k => fG.l0 k s l n (wrap64 (i + 1)) (aI (L s)).1 (aI (L s)).2.1 (aI (L s)).2.2.1 (aI (L s)).2.2.2.1) r) :
  Ev (fun k => fG.j2 k s l n i flag (aI (L s)).1 (aI (L s)).2.1 (aI (L s)).2.2.1 (aI (L s)).2.2.2.1 b0 b1) ((!flag && JV (L s) (L b0)) || r) := by
 cases flag with
 | true =>
  refine eH (Ev.step (fun k => ?_) hr) (by simp)
  rw [fG.j2, if_pos rfl]
 | false =>
  refine Ev.step (fun k => by rw [fG.j2, if_neg (by decide)]) (Ev.bind (iD b0 h0) ?_)
  rw [Bool.not_false, Bool.true_and]
  unfold JV
  generalize aI (L b0) = v
  generalize (aI (L s)).2.2.2.1 = p at hr ⊢
  cases p with
  | nil => exact aK (by simp) (eH (Ev.now _) (by simp))
  | cons x p =>
   refine aY (by rw [List.length_cons]; omega) ?_
   rw [decide_eq_false (show ¬ x :: p = [] by simp), Bool.false_or]
   by_cases h1 : v.2.2.2.1 = []
   ·rw [h1]; exact aY (by simp) (eH hr (by simp))
   ·have hp : 0 < v.2.2.2.1.length := List.length_pos_iff.2 h1
    refine aK (by omega) ?_
    rw [decide_eq_true h1, Bool.true_and]
    by_cases h2 : v.1 = (aI (L s)).1
    ·refine aK h2 ?_
     rw [decide_eq_true h2, Bool.true_and]
     by_cases h3 : v.2.1 = (aI (L s)).2.1
     ·refine aK h3 ?_
      rw [decide_eq_true h3, Bool.true_and]
      by_cases h4 : v.2.2.1 = (aI (L s)).2.2.1
      ·rw [decide_eq_true h4, Bool.true_or]; exact aK h4 (Ev.now _)
      ·rw [decide_eq_false h4, Bool.false_or]; exact aY h4 hr
     ·rw [decide_eq_false h3, Bool.false_and, Bool.false_or]; exact aY h3 hr
    ·rw [decide_eq_false h2, Bool.false_and, Bool.false_or]; exact aY h2 hr
theorem Ld {l : B} (h : l = []) : dX l = false := by rw [h]; exact uo
theorem Q5 {l : B} (h : jX l = true) (hne : ¬ l = []) : dX l = true := by
 unfold jX at h
 rw [Bool.or_eq_true] at h
 rcases h with h | h
 ·exact h
 ·exact absurd (beq_iff_eq.1 h) hne
theorem aad (s b1 : ByteArray) (hs : s.size ≤ 1048576) (h1 : b1.size ≤ 1048576) (hv : jX (L b1) = true) {F : Nat → Bool → Option Bool} {a : Bool → Bool} (hF : ∀ f, Ev (fun k => F k f) (a f)) :
  Ev (fun k => if b1.toList = ([] : List UInt8) then F k false else ((gK.f k s b1).bind fun t => F k (decide (t ≥ 0)))) (a (dX (L b1) && decide (0 ≤ yc (L s) (L b1)))) := by
 rw [eY]
 by_cases h : L b1 = []
 ·rw [Ld h, Bool.false_and]; exact aK h (hF false)
 ·rw [Q5 hv h, Bool.true_and]
  exact aY h (Ev.bind (tN s b1 hs h1) (hF _))
theorem CU (s : ByteArray) (l : List iR) (hsz : s.size ≤ 1048576) (hl : l.length ≤ 1048576) (hs : ∀ b ∈ l, b.f0.size ≤ 1048576 ∧ b.f1.size ≤ 1048576) : Ev (fun k => fG.f k s l) (inL (L s) l) := by
 unfold fG.f
 refine Ev.bind (iD s hsz) ?_
 have stop : Ev (fun k => fG.j0 k s l true (aI (L s)).1 (aI (L s)).2.1 (aI (L s)).2.2.1 (aI (L s)).2.2.2.1) false :=
  Ev.step (f := fun _ => some false) (fun k => by rw [fG.j0, if_pos rfl]) (Ev.now _)
 unfold inL
 by_cases h1 : dX (L s) = true
 ·refine aK h1 (Ev.bind (nX l hl hs) ?_)
  rw [h1, Bool.true_and]
  by_cases h2 : jA l = true
  ·rw [h2, Bool.true_and]
   have hb : ∀ b ∈ l, Jg b = true := by
    unfold jA at h2
    simp only [Bool.and_eq_true, List.all_eq_true, decide_eq_true_eq] at h2
    exact h2.1
   refine Ev.step (f := fun k => fG.l0 k s l (l.length : Int) 0 (aI (L s)).1 (aI (L s)).2.1 (aI (L s)).2.2.1 (aI (L s)).2.2.2.1) (fun k => by rw [fG.j0, if_neg (by decide)]) ?_
   refine Q4 l z67 _ (fun k i => fG.l0 k s l (l.length : Int) i (aI (L s)).1 (aI (L s)).2.1 (aI (L s)).2.2.1 (aI (L s)).2.2.2.1) ?_ ?_
   ·exact Ev.step (f := fun _ => some false) (fun k => by show fG.l0 (k + 1) s l _ _ _ _ _ _ = _; rw [fG.l0, if_neg (by omega)]) (Ev.now _)
   ·intro i r hi hr
    have hmem := getD_mem l i z67 hi
    have hm := hs _ hmem
    have hk := hb _ hmem
    have ee : dS l (i : Int) = l.getD i z67 := rfl
    rw [← wC i (by omega)] at hr
    unfold Jg at hk
    rw [Bool.and_eq_true] at hk
    generalize hbb : l.getD i z67 = b at hm hk
    have j2 := fun f => TQ s l (l.length : Int) (i : Int) f b.f0 b.f1 hm.1 hr
    refine eH (Ev.step (f := fun k => if b.f0.toList = ([] : List UInt8) then (if b.f1.toList = ([] : List UInt8) then fG.j2 k s l (l.length : Int) (i : Int) false (aI (L s)).1 (aI (L s)).2.1 (aI (L s)).2.2.1 (aI (L s)).2.2.2.1 b.f0 b.f1 else ((gK.f k s b.f1).bind fun t => fG.j2 k s l (l.length : Int) (i : Int) (decide (t ≥ 0)) (aI (L s)).1 (aI (L s)).2.1 (aI (L s)).2.2.1 (aI (L s)).2.2.2.1 b.f0 b.f1)) else ((gK.f k s b.f0).bind fun t => if t < 0 then fG.j2 k s l (l.length : Int) (i : Int) true (aI (L s)).1 (aI (L s)).2.1 (aI (L s)).2.2.1 (aI (L s)).2.2.2.1 b.f0 b.f1 else (if b.f1.toList = ([] : List UInt8) then fG.j2 k s l (l.length : Int) (i : Int) false (aI (L s)).1 (aI (L s)).2.1 (aI (L s)).2.2.1 (aI (L s)).2.2.2.1 b.f0 b.f1 else ((gK.f k s b.f1).bind fun t => fG.j2 k s l (l.length : Int) (i : Int) (decide (t ≥ 0)) (aI (L s)).1 (aI (L s)).2.1 (aI (L s)).2.2.1 (aI (L s)).2.2.2.1 b.f0 b.f1)))) (r := (!outB (L s) b && JV (L s) (L b.f0)) || r) (fun k => ?_) ?_) rfl
    ·show fG.l0 (k + 1) s l _ _ _ _ _ _ = _
     rw [fG.l0, if_pos (by omega), if_pos (by omega), if_pos (by omega), ee, hbb]
    ·have high := aad s b.f1 hsz hm.2 hk.2 (a := fun f => (!f && JV (L s) (L b.f0)) || r) j2
     rw [eY]
     unfold outB
     by_cases c : L b.f0 = []
     ·rw [Ld c, Bool.false_and, Bool.false_or]; exact aK c high
     ·rw [Q5 hk.1 c, Bool.true_and]
      refine aY c (Ev.bind (tN s b.f0 hsz hm.1) ?_)
      by_cases h3 : yc (L s) (L b.f0) < 0
      ·rw [decide_eq_true h3, Bool.true_or]; exact aK h3 (j2 true)
      ·rw [decide_eq_false h3, Bool.false_or]; exact aY h3 high
  ·have h2' : jA l = false := by simpa using h2
   rw [h2']; exact stop
 ·have h1' : dX (L s) = false := by simpa using h1
  rw [h1']; exact aY h1 stop
abbrev T3 := B × B × Bool
abbrev rV : T3 := ([], [], false)
def toS (r : T3) : ByteArray × ByteArray × Bool := (S r.1, S r.2.1, r.2.2)
def wB (x : B) : Bool := decide (2 < x.length) && (x.take 2 == [62, 61])
def isLt (x : B) : Bool := decide (1 < x.length) && (x.take 1 == [60])
def oQ : List B → T3
 | [x] => if wB x = true then (if dX (x.drop 2) = true then (x.drop 2, [], true) else rV) else if isLt x = true then (if dX (x.drop 1) = true then ([], x.drop 1, true) else rV) else rV
 | [x, y] => if wB x = true ∧ isLt y = true then (if dX (x.drop 2) = true ∧ dX (y.drop 1) = true then (x.drop 2, y.drop 1, true) else rV) else rV
 | _ => rV
theorem I8 (x : B) : oQ [x] = if wB x = true then (if dX (x.drop 2) = true then (x.drop 2, [], true) else rV) else if isLt x = true then (if dX (x.drop 1) = true then ([], x.drop 1, true) else rV) else rV := rfl
theorem MK (x y : B) : oQ [x, y] = if wB x = true ∧ isLt y = true then (if dX (x.drop 2) = true ∧ dX (y.drop 1) = true then (x.drop 2, y.drop 1, true) else rV) else rV := rfl
theorem YT (x y z : B) (r : List B) : oQ (x :: y :: z :: r) = rV := rfl
theorem rng_one (u v : B) (hu : u.length ≤ 1000) (hv : v.length ≤ 1000) : Ev (fun k => bZ.f k [(⟨S u, S v⟩ : iR)]) (jX u && jX v) := by
 have := nY [(⟨S u, S v⟩ : iR)] (by simp) (fun b hb => by rw [List.mem_singleton] at hb; subst hb; exact ⟨by show (S u).size ≤ _; rw [fD]; omega, by show (S v).size ≤ _; rw [fD]; omega⟩)
 refine eH this ?_
 unfold jA Jg
 simp only [List.all_cons, List.all_nil, List.length_cons, List.length_nil, Bool.and_true]
 rw [lQ, lQ]; simp
theorem O9 (s : ByteArray) (hs : s.size ≤ 1000) : Ev (fun k => aU.f k s) (toS (oQ (gJ 32 [] (L s)))) := by
 have ew : Ev (fun k => jT.f k s) ((gJ 32 [] (L s)).map S) := by unfold jT.f; exact Ev.bind (mf s 32 (by omega)) (Ev.now _)
 have hsz := fM s
 have hw : ∀ x ∈ gJ 32 [] (L s), x.length ≤ 1000 := fun x hx => by
  have := EY 32 _ _ _ hx
  simp only [List.length_nil] at this; omega
 have hwl : (gJ 32 [] (L s)).length ≤ 1001 := by have := (vN 32 (L s) []).2; omega
 have hw1 : 1 ≤ (gJ 32 [] (L s)).length := (vN 32 (L s) []).1
 unfold aU.f
 refine Ev.bind ew ?_
 generalize gJ 32 [] (L s) = q at hw hwl hw1
 have hlen : (q.map S).length = q.length := List.length_map ..
 have hgl : ∀ i : Nat, (q.getD i []).length ≤ 1000 := fun i => I9 q i 1000 hw
 have hrd : ∀ i : Nat, iE ByteArray.empty (q.map S) (i : Int) = S (q.getD i []) := yI q
 have JW : ∀ (u v : B) (r : ByteArray × ByteArray × Bool), wB (q.getD 0 []) = true → Ev (fun k => aU.l0 k (q.map S) ((1 : Nat) : Int) (S ((q.getD 0 []).drop 2)) (S v)) r → Ev (fun k => aU.l0 k (q.map S) ((0 : Nat) : Int) (S u) (S v)) r := by
  intro u v r hg h
  unfold wB at hg
  simp only [Bool.and_eq_true, decide_eq_true_eq, beq_iff_eq] at hg
  have hz : (S (q.getD 0 [])).size = (q.getD 0 []).length := fD _
  have e2 : (S (q.getD 0 [])).extract 2 (S (q.getD 0 [])).size = S ((q.getD 0 []).drop 2) := by
   apply mD; rw [kC, lQ, lQ, hz, List.take_of_length_le (by rw [List.length_drop]; omega)]
  have et : ((S (q.getD 0 [])).extract 0 2).toList = (q.getD 0 []).take 2 := by rw [eY, kC, lQ]; rfl
  have h' := Ev.step (f := fun k => aU.l0 k (q.map S) ((1 : Nat) : Int) (S ((q.getD 0 []).drop 2)) (S v)) (g := fun k => aU.j1 k (q.map S) ((0 : Nat) : Int) true (S u) (S v)) (fun k => by
   show aU.j1 (k + 1) _ _ _ _ _ = _
   rw [aU.j1, if_pos rfl, if_pos (by omega), if_pos (by omega), hrd 0, if_pos (by omega), wC 0 (by omega), e2]) h
  refine Ev.step (fun k => by rw [aU.l0, if_pos (by omega), if_pos (by omega), if_pos (by omega), hrd 0, if_pos (by omega), if_pos (by omega), if_pos (by omega), et, hg.2]) ?_
  exact h'
 have mid : ∀ (i : Nat) (u v : B) (r : ByteArray × ByteArray × Bool), i < q.length → (i = 0 → ¬ wB (q.getD i []) = true) → Ev (fun k => aU.j1 k (q.map S) (i : Int) false (S u) (S v)) r → Ev (fun k => aU.l0 k (q.map S) (i : Int) (S u) (S v)) r := by
  intro i u v r hi hg h
  have hz : (S (q.getD i [])).size = (q.getD i []).length := fD _
  by_cases h0 : (i : Int) = 0
  ·have hg := hg (by omega)
   unfold wB at hg
   simp only [Bool.and_eq_true, decide_eq_true_eq, beq_iff_eq] at hg
   by_cases h2 : ((S (q.getD i [])).size : Int) > 2
   ·have et : ((S (q.getD i [])).extract 0 2).toList = (q.getD i []).take 2 := by rw [eY, kC, lQ]; rfl
    have ef : ((q.getD i []).take 2 == ([62, 61] : List UInt8)) = false := by
     rw [Bool.eq_false_iff]; intro e
     exact hg ⟨by omega, beq_iff_eq.1 e⟩
    exact Ev.step (fun k => by rw [aU.l0, if_pos (by omega), if_pos h0, if_pos (by omega), hrd i, if_pos h2, if_pos (by omega), if_pos (by omega), et, ef]) h
   ·exact Ev.step (fun k => by rw [aU.l0, if_pos (by omega), if_pos h0, if_pos (by omega), hrd i, if_neg h2]) h
  ·exact Ev.step (fun k => by rw [aU.l0, if_pos (by omega), if_neg h0]) h
 have Le : ∀ (i : Nat) (u v : B) (r : ByteArray × ByteArray × Bool), i + 1 = q.length → (i = 0 → ¬ wB (q.getD i []) = true) → isLt (q.getD i []) = true → Ev (fun k => aU.l0 k (q.map S) ((i + 1 : Nat) : Int) (S u) (S ((q.getD i []).drop 1))) r → Ev (fun k => aU.l0 k (q.map S) (i : Int) (S u) (S v)) r := by
  intro i u v r hi hg hl h
  unfold isLt at hl
  simp only [Bool.and_eq_true, decide_eq_true_eq, beq_iff_eq] at hl
  have hz : (S (q.getD i [])).size = (q.getD i []).length := fD _
  have e2 : (S (q.getD i [])).extract 1 (S (q.getD i [])).size = S ((q.getD i []).drop 1) := by
   apply mD; rw [kC, lQ, lQ, hz, List.take_of_length_le (by rw [List.length_drop]; omega)]
  have hb : bt (S (q.getD i [])) 0 = 60 := by
   have := pO (S (q.getD i [])) 0
   rw [lQ] at this
   refine this.trans ?_
   obtain ⟨h1, h2⟩ := hl
   generalize q.getD i [] = x at h1 h2
   cases x with
   | nil => simp at h1
   | cons a x => simp at h2; subst h2; rfl
  refine mid i u v r (by omega) hg (Ev.step (fun k => by rw [aU.j1, if_neg (by decide), if_pos (by rw [rO (by omega) (by omega)]; omega), if_pos (by omega), if_pos (by omega), hrd i, if_pos (by omega), if_pos (by omega), if_pos hb, if_pos (by omega), wC i (by omega), e2]) h)
 have E8 : ∀ (i : Nat) (u v : B), i < q.length → (i = 0 → ¬ wB (q.getD i []) = true) → ¬ (i + 1 = q.length ∧ isLt (q.getD i []) = true) → Ev (fun k => aU.l0 k (q.map S) (i : Int) (S u) (S v)) (toS rV) := by
  intro i u v hi hg hl
  have hz : (S (q.getD i [])).size = (q.getD i []).length := fD _
  refine mid i u v _ hi hg ?_
  by_cases h1 : i + 1 = q.length
  ·have hl : ¬ isLt (q.getD i []) = true := fun e => hl ⟨h1, e⟩
   unfold isLt at hl
   simp only [Bool.and_eq_true, decide_eq_true_eq, beq_iff_eq] at hl
   by_cases h2 : ((S (q.getD i [])).size : Int) > 1
   ·have hb : ¬ bt (S (q.getD i [])) 0 = 60 := fun e => by
     have hn := pO (S (q.getD i [])) 0
     rw [lQ] at hn
     have h3 : ((at_ (q.getD i []) 0).toNat : Int) = 60 := hn.symm.trans e
     apply hl
     refine ⟨by omega, ?_⟩
     have h4 : 1 < (q.getD i []).length := by omega
     generalize q.getD i [] = x at h3 h4
     cases x with
     | nil => simp at h4
     | cons a x =>
      have : a = 60 := vK h3
      subst this; rfl
    exact Ev.step (f := fun _ => some (toS rV)) (fun k => by rw [aU.j1, if_neg (by decide), if_pos (by rw [rO (by omega) (by omega)]; omega), if_pos (by omega), if_pos (by omega), hrd i, if_pos h2, if_pos (by omega), if_neg hb]; rfl) (Ev.now _)
   ·exact Ev.step (f := fun _ => some (toS rV)) (fun k => by rw [aU.j1, if_neg (by decide), if_pos (by rw [rO (by omega) (by omega)]; omega), if_pos (by omega), if_pos (by omega), hrd i, if_neg h2]; rfl) (Ev.now _)
  ·exact Ev.step (f := fun _ => some (toS rV)) (fun k => by rw [aU.j1, if_neg (by decide), if_neg (by rw [rO (by omega) (by omega)]; omega)]; rfl) (Ev.now _)
 have fin : ∀ (u v : B), q.length ≤ 2 → u.length ≤ 1000 → v.length ≤ 1000 → Ev (fun k => aU.l0 k (q.map S) (q.length : Int) (S u) (S v)) (if (jX u && jX v) = true then (S u, S v, true) else toS rV) := by
  intro u v h2 hu hv
  refine Ev.step (fun k => by rw [aU.l0, if_neg (by omega), if_neg (by omega)]) (Ev.bind (rng_one u v hu hv) ?_)
  by_cases e : (jX u && jX v) = true
  ·exact eH (aK e (Ev.now _)) (if_pos e).symm
  ·exact eH (aY e (Ev.now _)) (if_neg e).symm
 have vor : ∀ x : B, x ≠ [] → jX x = dX x := fun x hx => by
  unfold jX
  have : (x == []) = false := by cases x with
   | nil => exact absurd rfl hx
   | cons _ _ => rfl
  rw [this, Bool.or_false]
 have hz2 : ∀ x : B, wB x = true → x.drop 2 ≠ [] := fun x hx e => by
  unfold wB at hx
  simp only [Bool.and_eq_true, decide_eq_true_eq] at hx
  have := congrArg List.length e
  rw [List.length_drop] at this; simp at this; omega
 have hz1 : ∀ x : B, isLt x = true → x.drop 1 ≠ [] := fun x hx e => by
  unfold isLt at hx
  simp only [Bool.and_eq_true, decide_eq_true_eq] at hx
  have := congrArg List.length e
  rw [List.length_drop] at this; simp at this; omega
 have vnil : jX [] = true := by unfold jX; simp
 match q, hw, hwl, hw1, hlen, hgl, hrd, JW, mid, Le, E8, fin with
 | [], _, _, hw1, _, _, _, _, _, _, _, _ => simp at hw1
 | [x], hw, _, _, _, hgl, _, JW, _, Le, E8, fin =>
  have hx : x.length ≤ 1000 := hw x (by simp)
  rw [I8]
  by_cases g : wB x = true
  ·rw [if_pos g]
   refine JW [] [] _ g ?_
   refine eH (fin (x.drop 2) [] (by simp) (by rw [List.length_drop]; omega) (by simp)) ?_
   rw [vor _ (hz2 x g), vnil, Bool.and_true]
   by_cases e : dX (x.drop 2) = true
   ·rw [if_pos e, if_pos e]; rfl
   ·rw [if_neg e, if_neg e]
  ·rw [if_neg g]
   by_cases t : isLt x = true
   ·rw [if_pos t]
    refine Le 0 [] [] _ rfl (fun _ => g) t ?_
    refine eH (fin [] (x.drop 1) (by simp) (by simp) (by rw [List.length_drop]; omega)) ?_
    rw [vor _ (hz1 x t), vnil, Bool.true_and]
    by_cases e : dX (x.drop 1) = true
    ·rw [if_pos e, if_pos e]; rfl
    ·rw [if_neg e, if_neg e]
   ·rw [if_neg t]
    exact E8 0 [] [] (by simp) (fun _ => g) (fun z => t z.2)
 | [x, y], hw, _, _, _, hgl, _, JW, _, Le, E8, fin =>
  have hx : x.length ≤ 1000 := hw x (by simp)
  have hy : y.length ≤ 1000 := hw y (by simp)
  rw [MK]
  by_cases g : wB x = true
  ·refine JW [] [] _ g ?_
   by_cases t : isLt y = true
   ·rw [if_pos ⟨g, t⟩]
    refine Le 1 (x.drop 2) [] _ rfl (fun z => absurd z (by decide)) t ?_
    refine eH (fin (x.drop 2) (y.drop 1) (by simp) (by rw [List.length_drop]; omega) (by rw [List.length_drop]; omega)) ?_
    rw [vor _ (hz2 x g), vor _ (hz1 y t)]
    by_cases e : dX (x.drop 2) = true ∧ dX (y.drop 1) = true
    ·rw [if_pos (by rw [e.1, e.2]; rfl), if_pos e]; rfl
    ·rw [if_neg (by rw [Bool.and_eq_true]; exact e), if_neg e]
   ·rw [if_neg (fun z => t z.2)]
    exact E8 1 _ [] (by simp) (fun z => absurd z (by decide)) (fun z => t z.2)
  ·rw [if_neg (fun z => g z.1)]
   exact E8 0 [] [] (by simp) (fun _ => g) (fun z => absurd z.1 (by simp))
 | x :: y :: z :: r, hw, _, _, _, hgl, _, JW, _, Le, E8, fin =>
  rw [YT]
  by_cases g : wB x = true
  ·refine JW [] [] _ g ?_
   exact E8 1 _ [] (by simp) (fun z => absurd z (by decide)) (fun z => absurd z.1 (by simp))
  ·exact E8 0 [] [] (by simp) (fun _ => g) (fun z => absurd z.1 (by simp))
theorem VP (c : UInt8) (h : yG c = true) : c ≠ 46 ∧ c ≠ 45 := by
 have : ∀ d : UInt8, yG d = true → d ≠ 46 ∧ d ≠ 45 := by intro d; revert d; refine ru ?_; decide +kernel
 exact this c h
theorem F5 {n : Int} (h : 0 ≤ n) : 46 ∉ Lib.itoa n ∧ 45 ∉ Lib.itoa n :=
 ⟨fun e => (VP _ (sG h _ e)).1 rfl, fun e => (VP _ (sG h _ e)).2 rfl⟩
theorem F6 {n : Int} (h : 0 ≤ n ∧ n ≤ 999999999) : cu (Lib.itoa n) = n := by
 obtain ⟨u, rfl⟩ : ∃ u : Nat, n = u := ⟨n.toNat, by omega⟩
 rw [tJ, QI u (by omega)]
theorem VQ {a b c : Int} (h : iZ a b c [zeroS] ≠ []) : aI (iZ a b c [zeroS]) = (a, b, c, [zeroS], true) := by
 have hv : gY a b c [zeroS] = true := by
  by_cases e : gY a b c [zeroS] = true
  ·exact e
  ·exact absurd (tK e) h
 obtain ⟨ha, hb, hc, _⟩ := nC hv
 have ht : iZ a b c [zeroS] = oN a b c ++ [45, 48] := by rw [vY hv]; rfl
 have f1 := F5 ha.1
 have f2 := F5 hb.1
 have f3 := F5 hc.1
 have hcore : 45 ∉ oN a b c := by
  unfold oN
  simp only [List.mem_append, List.mem_cons, not_or]
  exact ⟨f1.2, by decide, f2.2, by decide, f3.2⟩
 have hh : jI (oN a b c ++ [45, 48]) = oN a b c := by rw [JU hcore]; show oN a b c ++ [] = _; rw [List.append_nil]
 have hidx : ∀ x : B, 45 ∉ x → idx (x ++ [45, 48]) 45 = (x.length : Int) := by
  intro x
  induction x with
  | nil => intro _; rfl
  | cons y x ih =>
   intro h
   simp only [List.mem_cons, not_or] at h
   have := ih h.2
   rw [List.cons_append, oZ, if_neg (fun e => h.1 e.symm), if_neg (by omega), this, List.length_cons]; omega
 have hi := hidx _ hcore
 have hp : rU (oN a b c ++ [45, 48]) = [zeroS] := by
  unfold rU
  rw [hi, if_pos (by omega), Int.toNat_natCast, List.drop_append]
  simp only [Nat.add_sub_cancel_left]
  rw [List.drop_eq_nil_of_le (by omega)]
  rfl
 have hcut : gJ 46 [] (oN a b c) = [Lib.itoa a, Lib.itoa b, Lib.itoa c] := by
  unfold oN
  rw [uq 46 _ _ f1.1, uq 46 _ _ f2.1, pG 46 _ [] f3.1]; rfl
 have h0 : ∀ i, jB (oN a b c ++ [45, 48]) i = cu ([Lib.itoa a, Lib.itoa b, Lib.itoa c].getD i []) := fun i => by unfold jB; rw [hh, hcut]
 rw [ht]
 unfold aI
 rw [hh, hp, hcut, h0, h0, h0]
 rw [show ([Lib.itoa a, Lib.itoa b, Lib.itoa c].getD 0 [] : B) = Lib.itoa a from rfl, show ([Lib.itoa a, Lib.itoa b, Lib.itoa c].getD 1 [] : B) = Lib.itoa b from rfl, show ([Lib.itoa a, Lib.itoa b, Lib.itoa c].getD 2 [] : B) = Lib.itoa c from rfl]
 rw [F6 ha, F6 hb, F6 hc, if_pos ⟨rfl, ht⟩]
theorem Np {a b c : Int} (h : iZ a b c [zeroS] ≠ []) : dX (iZ a b c [zeroS]) = true := by unfold dX; rw [VQ h]
theorem TR (c : UInt8) : ∀ (l p : B), (gJ c p l).length = l.count c + 1 := by
 intro l
 induction l with
 | nil => intro p; rfl
 | cons x l ih =>
  intro p
  unfold gJ
  by_cases h : x = c
  ·subst h; rw [if_pos rfl, List.length_cons, ih, List.count_cons_self]
  ·rw [if_neg h, ih, List.count_cons_of_ne h]
theorem TS {l : B} (h : dX l = true) : 3 ≤ (gJ 46 [] l).length := by
 unfold dX aI at h
 split at h
 ·rename_i hc
  have h3 := hc.1
  rw [TR] at h3 ⊢
  have : (jI l).count 46 ≤ l.count 46 := by
   unfold jI
   split
   ·exact List.Sublist.count_le _ (List.take_sublist _ _)
   ·exact Nat.le_refl _
  omega
 ·simp [zeroV] at h
theorem Q7 {l : B} (h : 3 ≤ (gJ 46 [] l).length) : vJ l = (eS, eS, false) := by
 unfold vJ
 split
 ·rename_i e; rw [e] at h; simp at h
 ·rename_i e; rw [e] at h; simp at h
 ·rfl
theorem Oa {x : UInt8} {r : B} (h : yG x = false) : vJ (x :: r) = (eS, eS, false) ∧ Ff (x :: r) = (eS, eS, false) := by
 have first : ∀ y : B, (∃ q, y = x :: q) → cu y = -1 := fun y ⟨q, e⟩ => JL ⟨x, by rw [e]; simp, h⟩
 unfold vJ Ff
 cases hw : gJ 46 [] (x :: r) with
 | nil => exact ⟨rfl, rfl⟩
 | cons y w =>
  have hy : (w = [] ∨ w ≠ []) := by cases w with
   | nil => exact .inl rfl
   | cons _ _ => exact .inr (by simp)
  cases w with
  | nil =>
   obtain ⟨h1, _⟩ := vI 46 _ _ _ hw
   have := first y ⟨r, by rw [h1]; rfl⟩
   constructor
   ·show (if 0 ≤ cu y ∧ _ then _ else _) = _; rw [if_neg (by omega)]
   ·show (if 0 ≤ cu y then _ else _) = _; rw [if_neg (by omega)]
  | cons z w =>
   cases w with
   | nil =>
    obtain ⟨h1, h2, h3⟩ := yf hw
    have hn : y = [] ∨ ∃ q, y = x :: q := by
     cases y with
     | nil => exact .inl rfl
     | cons a q => rw [List.cons_append] at h1; exact .inr ⟨q, by rw [(List.cons.inj h1).1]⟩
    have : cu y = -1 := by
     rcases hn with e | e
     ·subst e; decide +kernel
     ·exact first y e
    constructor
    ·show (if (0 ≤ cu y ∧ _) ∧ _ then _ else _) = _; rw [if_neg (by omega)]
    ·show (if 0 ≤ cu y ∧ _ then _ else _) = _; rw [if_neg (by omega)]
   | cons _ _ => exact ⟨rfl, rfl⟩
theorem ML (s : ByteArray) (p : B) (hs : s.size ≤ 1048576) : strings_CutPrefix.f s (S p) = some (if p.length ≤ (L s).length ∧ (L s).take p.length = p then (S ((L s).drop p.length), true) else (s, false)) := by
 have hsz := fM s
 have hp : (S p).size = p.length := fD p
 unfold strings_CutPrefix.f stringslite_CutPrefix.f stringslite_HasPrefix.f
 by_cases h : p.length ≤ (L s).length
 ·have et : (s.extract 0 (((S p).size : Int)).toNat).toList = (L s).take p.length := by rw [eY, kC, Int.toNat_natCast, hp]; rfl
  rw [if_pos (by omega), if_pos (by omega), if_pos (by omega), Option.bind_some, et, eY, lQ]
  by_cases e : (L s).take p.length = p
  ·rw [if_pos (by rw [beq_iff_eq]; exact e), if_pos (by omega), if_pos (by omega), if_pos ⟨h, e⟩]
   have : s.extract (((S p).size : Int)).toNat s.size = S ((L s).drop p.length) := by
    apply mD; rw [kC, lQ, Int.toNat_natCast, hp, List.take_of_length_le (by rw [List.length_drop]; omega)]
   rw [this]; rfl
  ·rw [if_neg (by rw [beq_iff_eq]; exact e), if_neg (fun z => e z.2)]; rfl
 ·rw [if_neg (by omega), Option.bind_some, if_neg (by decide), if_neg (fun z => h z.1)]; rfl
abbrev T3S := ByteArray × ByteArray × Bool
abbrev rW : T3S := (eS, eS, false)
def opn (l : B) : Bool := l == [42] || (l.take 1 == [60] || l.take 2 == [62, 61])
def Good (l : B) (r r' : T3S) : Prop :=
 (r.2.2 = true ∧ r' = r ∧ (opn l = true ∨ (r.1 ≠ eS ∧ r.2.1 ≠ eS)) ∧ jX (L r.1) = true ∧ jX (L r.2.1) = true) ∨ (r.2.2 = false ∧ (r'.2.2 = false ∨ (opn l = false ∧ (r'.1 = eS ∨ r'.2.1 = eS))))
theorem mZ {l : B} {a b : ByteArray} : Good l rW (a, b, false) := .inr ⟨rfl, .inl rfl⟩
theorem TT {l : B} (h : l ≠ []) : S l ≠ eS := fun e => h (by have := congrArg L e; rw [lQ] at this; exact this)
theorem lu {l : B} (h : dX l = true) : jX l = true := by unfold jX; rw [h]; rfl
theorem RJ (l : B) (h : opn l = false) : Good l (vJ l) (Ff l) := by
 unfold vJ Ff
 split
 ·rename_i x hw
  obtain ⟨h1, h2⟩ := vI 46 _ _ _ hw
  rw [List.nil_append] at h1
  by_cases e : 0 ≤ cu x
  ·rw [if_pos e]
   by_cases e2 : ui (cu x) 0 0 0 ≠ []
   ·rw [if_pos ⟨e, e2⟩]
    refine .inl ⟨rfl, rfl, .inr ⟨TT (by simp), TT e2⟩, ?_, ?_⟩
    ·show jX (L (S (l ++ [46, 48, 46, 48]))) = true
     rw [lQ]
     refine lu ?_
     have := FX h2
     rw [← h1, if_pos e] at this
     unfold dX; rw [← h1, this]
    ·show jX (L (S (ui (cu x) 0 0 0))) = true
     rw [lQ]; exact lu (Np e2)
   ·rw [if_neg (fun z => e2 z.2)]
    refine .inr ⟨rfl, .inr ⟨h, .inr ?_⟩⟩
    have : ui (cu x) 0 0 0 = [] := Classical.not_not.1 e2
    show S (ui (cu x) 0 0 0) = eS
    rw [this]; rfl
  ·rw [if_neg e, if_neg (fun z => e z.1)]; exact mZ
 ·rename_i x y hw
  obtain ⟨h1, h2, h3⟩ := yf hw
  by_cases e : 0 ≤ cu x ∧ 0 ≤ cu y
  ·rw [if_pos e]
   by_cases e2 : ui (cu x) (cu y) 0 1 ≠ []
   ·rw [if_pos ⟨e, e2⟩]
    refine .inl ⟨rfl, rfl, .inr ⟨TT (by simp), TT e2⟩, ?_, ?_⟩
    ·show jX (L (S (l ++ [46, 48]))) = true
     rw [lQ]
     refine lu ?_
     have := FY h2 h3
     rw [← h1, if_pos e] at this
     unfold dX; rw [this]
    ·show jX (L (S (ui (cu x) (cu y) 0 1))) = true
     rw [lQ]; exact lu (Np e2)
   ·rw [if_neg (fun z => e2 z.2)]
    refine .inr ⟨rfl, .inr ⟨h, .inr ?_⟩⟩
    have : ui (cu x) (cu y) 0 1 = [] := Classical.not_not.1 e2
    show S (ui (cu x) (cu y) 0 1) = eS
    rw [this]; rfl
  ·rw [if_neg e, if_neg (fun z => e z.1)]; exact mZ
 ·exact mZ
def hiT (a b c : Int) (p : List ByteArray) : B := iZ a b (if p = [] then c + 1 else c) (p ++ [zeroS])
theorem aae (s : ByteArray) (hs : s.size ≤ 1000) {a b c : Int} {p : List ByteArray} (hv : aI (L s) = (a, b, c, p, true)) : Ev (fun k => fE.f k s) (if hiT a b c p = [] then rW else (s, S (hiT a b c p), true)) := by
 have hr := eX s (by omega)
 have hsz := fM s
 rw [hv] at hr
 obtain ⟨h1, h2⟩ := rM hv
 have h1' : gY a b c [] = true := by
  obtain ⟨ha, hb, hc, _⟩ := nC h1
  unfold gY uJ
  rw [decide_eq_true ha, decide_eq_true hb, decide_eq_true hc]; rfl
 unfold fE.f hiT
 refine Ev.bind hr (aK rfl ?_)
 by_cases hp : p = []
 ·subst hp
  refine aY (by simp) (Ev.bind (Bc a b c [] h1') ?_)
  rw [if_pos rfl, List.nil_append]
  have hz := xn a b (c + 1) [zeroS]
  rw [Cf] at hz
  by_cases e : gY a b (c + 1) [] = true
  ·rw [if_pos e, if_neg (fun z => hz.1 z e)]; exact aK rfl (Ev.now _)
  ·rw [if_neg e, if_pos (hz.2 e)]; exact aY (by simp) (Ev.now _)
 ·obtain ⟨i1, i2⟩ := xq hv hp
  have hz : (⟨#[46, 48]⟩ : ByteArray) = S [46, 48] := rfl
  have hs2 : s ++ (⟨#[46, 48]⟩ : ByteArray) = S (L s ++ [46, 48]) := by rw [hz]; apply mD; rw [kX, lQ, lQ]
  have hr2 := eX (S (L s ++ [46, 48])) (by rw [fD, List.length_append]; simp; omega)
  rw [lQ] at hr2
  refine aK (by cases p with
   | nil => exact absurd rfl hp
   | cons x r => simp only [List.length_cons]; omega) (aK (by omega) ?_)
  rw [hs2]
  refine Ev.bind hr2 ?_
  rw [if_neg hp]
  have hz := xn a b c (p ++ [zeroS])
  have J9 : (aI (L s ++ [46, 48])).2.2.2.2 = gY a b c (p ++ [zeroS]) := i1
  rw [J9]
  by_cases e : gY a b c (p ++ [zeroS]) = true
  ·rw [if_neg (fun z => hz.1 z e), i2 e]; exact aK e (Ev.now _)
  ·rw [if_pos (hz.2 e)]; exact aY e (Ev.now _)
theorem hi_ver {l : B} {a b c : Int} {p : List ByteArray} (hv : aI l = (a, b, c, p, true)) (h : hiT a b c p ≠ []) : dX (hiT a b c p) = true := by
 unfold hiT at h ⊢
 by_cases hp : p = []
 ·subst hp; rw [if_pos rfl, List.nil_append] at h ⊢; exact Np h
 ·rw [if_neg hp] at h ⊢
  obtain ⟨i1, i2⟩ := xq hv hp
  have e : gY a b c (p ++ [zeroS]) = true := by
   by_cases e : gY a b c (p ++ [zeroS]) = true
   ·exact e
   ·exact absurd (tK e) h
  rw [i2 e, i1, e]
theorem CJ (s : ByteArray) (hs : s.size ≤ 200) (ho : opn (L s) = false) : ∃ r, Ev (fun k => aJ.j1 k s false) r ∧
  (dX (L s) = true → ∃ r', Ev (fun k => bV.f k s) r' ∧ Good (L s) r r') ∧ (dX (L s) = false → r = vJ (L s)) := by
 have hsz := fM s
 by_cases J9 : dX (L s) = true
 ·have hv : ∃ a b c p, aI (L s) = (a, b, c, p, true) := by
   obtain ⟨a, b, c, p, _, h⟩ := qX J9
   exact ⟨a, b, c, p, h⟩
  obtain ⟨a, b, c, p, hv⟩ := hv
  have ea := aae s (by omega) hv
  obtain ⟨h1, h2⟩ := rM hv
  obtain ⟨_, _, hc, hpl, hpp⟩ := nC h1
  have hne : L s ≠ [] := fun e => by rw [e, uo] at J9; cases J9
  have hi : Ev (fun k => bV.f k s) (s, S (hiT a b c p), true) := by
   have hr := iD s (by omega)
   rw [hv] at hr
   have hl := Bd a b c p (by omega) (fun x hx => by have := sD (hpp x hx); rw [← fM] at this; omega)
   have hs' : S (iZ a b c p) = s := by rw [h2]; exact S_L s
   rw [hs', rO (n := c + 1) (by omega) (by omega)] at hl
   unfold bV.f
   have h42 : ¬ s.toList = ([42] : List UInt8) := fun e => by
    rw [eY] at e; rw [e] at ho; simp [opn] at ho
   refine aY h42 (Ev.bind hr (aK rfl (Ev.bind hl ?_)))
   refine eH (Ev.now _) ?_
   unfold hiT
   by_cases hp : p = []
   ·subst hp; rfl
   ·simp only [if_neg hp]
  by_cases hh : hiT a b c p = []
  ·rw [if_pos hh] at ea
   have h3 := TS J9
   refine ⟨rW, Ev.step (fun k => by rw [aJ.j1, if_neg (by decide)]) (Ev.bind ea (aY (show ¬ rW.2.2 = true by simp [rW]) (Ev.bind (QZ s (by omega)) (eH (Ev.now _) (by rw [Q7 h3]))))), fun _ => ⟨_, hi, .inr ⟨rfl, .inr ⟨ho, .inr ?_⟩⟩⟩, fun e => by rw [J9] at e; cases e⟩
   show S (hiT a b c p) = eS
   rw [hh]; rfl
  ·rw [if_neg hh] at ea
   refine ⟨(s, S (hiT a b c p), true), Ev.step (fun k => by rw [aJ.j1, if_neg (by decide)]) (Ev.bind ea (aK rfl (Ev.now _))), fun _ => ⟨_, hi, .inl ⟨rfl, rfl, .inr ⟨fun e => hne (by rw [show s = eS from e]; rfl), TT hh⟩, lu J9, ?_⟩⟩, fun e => by rw [J9] at e; cases e⟩
   show jX (L (S (hiT a b c p))) = true
   rw [lQ]; exact lu (hi_ver hv hh)
 ·have hn : ¬ (aI (L s)).2.2.2.2 = true := J9
  refine ⟨vJ (L s), Ev.step (fun k => by rw [aJ.j1, if_neg (by decide)]) (Ev.bind (a := rW) (by unfold fE.f; exact Ev.bind (eX s (by omega)) (aY hn (Ev.now _))) (aY (show ¬ rW.2.2 = true by simp [rW]) (Ev.bind (QZ s (by omega)) (Ev.now _)))), fun e => absurd e J9, fun _ => rfl⟩
theorem aaf {l : B} {a b c : Int} {p : List ByteArray} (hr : aI l = (a, b, c, p, true)) (hp : p ≠ []) (e : gY a b c (p ++ [zeroS]) = true) : aI (l ++ [46, 48]) = (a, b, c, p ++ [zeroS], true) := by
 have ht := (xq hr hp).2 e
 unfold aI at hr
 split at hr
 case isFalse => exact absurd hr (by simp [zeroV])
 rename_i hc
 simp only [Prod.mk.injEq, and_true] at hr
 obtain ⟨ha, hb, hcc, hpp⟩ := hr
 rw [ha, hb, hcc, hpp] at hc
 have hi : 0 ≤ idx l 45 := QR (by rw [hpp]; exact hp)
 have h1 : ∀ i, jB (l ++ [46, 48]) i = jB l i := fun i => by unfold jB; rw [BA _ hi]
 unfold aI
 rw [BA _ hi, QQ hi, h1, h1, h1, ha, hb, hcc, hpp, if_pos ⟨hc.1, ht⟩]
theorem hi_read {l : B} {a b c : Int} {p : List ByteArray} (hv : aI l = (a, b, c, p, true)) (h : hiT a b c p ≠ []) : aI (hiT a b c p) = (a, b, if p = [] then c + 1 else c, p ++ [zeroS], true) := by
 unfold hiT at h ⊢
 by_cases hp : p = []
 ·subst hp; rw [if_pos rfl, List.nil_append] at h ⊢; exact VQ h
 ·rw [if_neg hp] at h ⊢
  have e : gY a b c (p ++ [zeroS]) = true := by
   by_cases e : gY a b c (p ++ [zeroS]) = true
   ·exact e
   ·exact absurd (tK e) h
  rw [(xq hv hp).2 e]
  exact aaf hv hp e
theorem VS : ∀ x : B, Lib.compareBytes x x = 0
 | [] => rfl
 | a :: x => by simp [Lib.compareBytes, VS x]
theorem TU (y : B) : 0 ≤ xk y [48] := by
 unfold xk
 rw [FV, if_pos (show (0 : Int) ≤ 0 by omega), if_pos (show (0 : Int) ≤ 0 by omega)]
 by_cases h : 0 ≤ cu y
 ·rw [if_pos h]; unfold jC; rw [if_neg (by omega)]; split <;> omega
 ·rw [if_neg h]; omega
theorem XG (x : B) : xk x x = 0 := by
 unfold xk
 by_cases h : 0 ≤ cu x
 ·rw [if_pos h, if_pos h, pK]
 ·rw [if_neg h, if_neg h]
  exact VS x
theorem VT : ∀ p : List B, cmpL p (p ++ [[48]]) = -1
 | [] => rfl
 | x :: p => by rw [List.cons_append, cmpL, if_pos (XG x)]; exact VT p
theorem Ea : ∀ q p : List B, 0 ≤ cmpL q p → cmpL q (p ++ [[48]]) < 0 → cmpL q p = 0
 | [], [], _, _ => rfl
 | [], x :: p, h, _ => by rw [cmpL] at h; omega
 | y :: q, [], _, h => by
  exfalso
  rw [List.nil_append, cmpL] at h
  have hl := TU y
  by_cases e : xk y [48] = 0
  ·rw [if_pos e] at h
   cases q with
   | nil => rw [cmpL] at h; omega
   | cons z q => rw [cmpL] at h; omega
  ·rw [if_neg e] at h; omega
 | y :: q, x :: p, h1, h2 => by
  rw [List.cons_append] at h2
  rw [cmpL] at h1 h2 ⊢
  by_cases e : xk y x = 0
  ·rw [if_pos e] at h1 h2 ⊢; exact Ea q p h1 h2
  ·rw [if_neg e] at h1 h2; omega
theorem Oj (x : ByteArray) (b : List iR) (hb : l7 x = b) (h1 : b.length = 1) : dX (L x) = true ∧ inL (L x) b = true ∧ ∀ v : ByteArray, inL (L v) b = true → v = x := by
 have J9 : (aI (L x)).2.2.2.2 = true := by
  by_cases e : (aI (L x)).2.2.2.2 = true
  ·exact e
  ·rw [FQ e] at hb; subst hb; simp at h1
 obtain ⟨a, bb, c, p, _, hv⟩ := qX (l := L x) J9
 have hex := FP hv
 have hne : hiT a bb c p ≠ [] := fun e => by
  unfold hiT at e
  rw [hb, if_pos e] at hex; rw [hex] at h1; simp at h1
 have hbb : b = [⟨x, S (hiT a bb c p)⟩] := by
  have := hne
  unfold hiT at this ⊢
  rw [hb, if_neg this] at hex; exact hex
 have hhi := hi_read hv hne
 have hiV : dX (hiT a bb c p) = true := by unfold dX; rw [hhi]
 have hrng : jA [(⟨x, S (hiT a bb c p)⟩ : iR)] = true := by
  unfold jA Jg
  simp only [List.all_cons, List.all_nil, List.length_cons, List.length_nil, Bool.and_true]
  rw [lQ, lu J9, lu hiV]; rfl
 have htake : ∀ v : B, inL v b = true ↔ dX v = true ∧ 0 ≤ yc v (L x) ∧ yc v (hiT a bb c p) < 0 ∧ JV v (L x) = true := by
  intro v
  rw [hbb]
  unfold inL GR outB
  rw [hrng]
  simp only [List.any_cons, List.any_nil, Bool.or_false, Bool.and_true, lQ]
  rw [show dX (L x) = true from J9, hiV]
  simp only [Bool.true_and, Bool.and_eq_true, Bool.not_or, Bool.not_eq_true', decide_eq_false_iff_not]
  constructor
  ·rintro ⟨h1, ⟨h2, h3⟩, h4⟩; exact ⟨h1, by omega, by omega, h4⟩
  ·rintro ⟨h1, h2, h3, h4⟩; exact ⟨h1, ⟨by omega, by omega⟩, h4⟩
 have hpm : (p ++ [zeroS]).map L = p.map L ++ [[48]] := by rw [List.map_append]; rfl
 refine ⟨J9, (htake (L x)).2 ⟨J9, by have := TP.self (L x); omega, ?_, ?_⟩, fun v hvv => ?_⟩
 ·unfold yc
  rw [hhi, hv]
  show xO a bb c (p.map L) a bb (if p = [] then c + 1 else c) ((p ++ [zeroS]).map L) < 0
  unfold xO
  rw [pK, if_pos rfl, pK, if_pos rfl]
  by_cases hp : p = []
  ·rw [if_pos hp]
   have : jC c (c + 1) = -1 := by unfold jC; rw [if_pos (by omega)]
   rw [this, if_neg (by decide)]; decide
  ·rw [if_neg hp, pK, if_pos rfl, hpm, if_neg (by simp [hp]), VT]; decide
 ·unfold JV
  rw [hv]
  by_cases hp : p = []
  ·simp [hp]
  ·simp [hp]
 ·obtain ⟨v1, v2, v3, v4⟩ := (htake (L v)).1 hvv
  have hz : yc (L v) (L x) = 0 := by
   generalize hq : aI (L v) = w at *
   obtain ⟨a', b', c', p', ok'⟩ := w
   unfold yc at v2 v3 ⊢
   unfold JV at v4
   rw [hq, hv] at v2 ⊢
   rw [hq, hhi] at v3
   rw [hq, hv] at v4
   change 0 ≤ xO a' b' c' (p'.map L) a bb c (p.map L) at v2
   change xO a' b' c' (p'.map L) a bb (if p = [] then c + 1 else c) ((p ++ [zeroS]).map L) < 0 at v3
   show xO a' b' c' (p'.map L) a bb c (p.map L) = 0
   simp only [Bool.or_eq_true, decide_eq_true_eq, Bool.and_eq_true] at v4
   unfold xO at v2 v3 ⊢
   by_cases e1 : jC a' a = 0
   ·rw [if_pos e1] at v2 v3 ⊢
    by_cases e2 : jC b' bb = 0
    ·rw [if_pos e2] at v2 v3 ⊢
     by_cases hp : p = []
     ·have hp' : p' = [] := by
       rcases v4 with h | h
       ·exact h
       ·exact absurd hp h.1
      subst hp; subst hp'
      rw [if_pos rfl] at v3
      by_cases e3 : jC c' c = 0
      ·rw [if_pos e3]; rfl
      ·exfalso
       rw [if_neg e3] at v2
       unfold jC at v2 e3
       have hcc : c < c' := by
        by_cases g1 : c' < c
        ·rw [if_pos g1] at v2; omega
        ·by_cases g2 : c < c'
         ·exact g2
         ·rw [if_neg g1, if_neg g2] at e3; exact absurd rfl e3
       by_cases e4 : jC c' (c + 1) = 0
       ·rw [if_pos e4] at v3
        simp [jC] at v3
       ·rw [if_neg e4] at v3
        unfold jC at v3
        rw [if_neg (by omega)] at v3
        split at v3 <;> omega
     ·rw [if_neg hp] at v3
      by_cases e3 : jC c' c = 0
      ·rw [if_pos e3] at v2 v3 ⊢
       rw [hpm] at v3
       have hpn : p.map L ≠ [] := by simp [hp]
       by_cases hp' : p' = []
       ·subst hp'
        exfalso
        rw [if_pos (by simp)] at v3
        unfold jC at v3
        rw [if_neg (by simp only [List.map_nil, List.length_nil]; omega)] at v3
        split at v3 <;> omega
       ·have hpn' : p'.map L ≠ [] := by simp [hp']
        rw [if_neg (fun z => z.elim hpn' hpn)] at v2 ⊢
        rw [if_neg (fun z => z.elim hpn' (by simp))] at v3
        exact Ea _ _ v2 v3
      ·rw [if_neg e3] at v2 v3; omega
    ·rw [if_neg e2] at v2 v3; omega
   ·rw [if_neg e1] at v2 v3; omega
  have := Zx v1 J9 hz
  exact mD this
theorem rdV_rng {l : B} {a b c : Int} {p : List ByteArray} {ok : Bool} (h : aI l = (a, b, c, p, ok)) : (0 ≤ a ∧ a ≤ 999999999) ∧ (0 ≤ b ∧ b ≤ 999999999) ∧ (0 ≤ c ∧ c ≤ 999999999) := by
 cases ok with
 | true => obtain ⟨ha, hb, hc, _⟩ := nC (rM h).1; exact ⟨ha, hb, hc⟩
 | false =>
  unfold aI at h
  split at h
  ·simp at h
  ·simp only [zeroV, Prod.mk.injEq] at h
   obtain ⟨rfl, rfl, rfl, _⟩ := h
   decide
theorem up0 (a b c : Int) : ui a b c 0 = iZ (a + 1) 0 0 [zeroS] := rfl
theorem up1 (a b c : Int) : ui a b c 1 = iZ a (b + 1) 0 [zeroS] := rfl
theorem up2 (a b c : Int) : ui a b c 2 = iZ a b (c + 1) [zeroS] := rfl
theorem zp (a b c : Int) : Ev (fun k => dM.f k a b c) (S (iZ a b c [zeroS])) := vZ a b c
theorem Dv (s : ByteArray) (hs : s.size ≤ 200) {x : UInt8} {r : B} (hl : L s = x :: r) (h42 : ¬ L s = [42]) (hv : dX (L s) = false) {f : Nat → Option T3S} {r' : T3S}
  (h1 : (L s).take 2 = [62, 61] → Ev (fun k => (strings_Cut.f (S ((L s).drop 2)) (⟨#[32, 60]⟩ : ByteArray)).bind fun qx => ((fF.f k qx.1).bind fun Xh => (if Xh = true then (if qx.2.2 = true then ((fF.f k qx.2.1).bind fun Xi => (some (qx.1, qx.2.1, Xi))) else (some (qx.1, qx.2.1, true))) else (some (qx.1, qx.2.1, false))))) r')
  (h2 : (L s).take 2 ≠ [62, 61] → x = 60 → Ev (fun k => (fF.f k (S r)).bind fun t689 => (some ((⟨#[]⟩ : ByteArray), S r, t689))) r')
  (h3 : (L s).take 2 ≠ [62, 61] → x ≠ 60 → Ev (fun k => bV.j0 k s (x == 94 || x == 126)) r') : Ev (fun k => bV.f k s) r' := by
 have hsz := fM s
 have hn : ¬ (aI (L s)).2.2.2.2 = true := by intro e; have : dX (L s) = true := e; rw [hv] at this; cases this
 unfold bV.f
 refine aY (by rw [eY]; exact h42) (Ev.bind (iD s (by omega)) (aY hn ?_))
 have hp2 := ML s [62, 61] (by omega)
 have hp1 := ML s [60] (by omega)
 have hlen : 1 ≤ (L s).length := by rw [hl]; simp
 by_cases g : (L s).take 2 = [62, 61]
 ·have hl2 : 2 ≤ (L s).length := by have := congrArg List.length g; rw [List.length_take] at this; simp at this; omega
  rw [if_pos ⟨hl2, g⟩] at hp2
  exact bn hp2 (aK rfl (h1 g))
 ·rw [if_neg (fun z => g z.2)] at hp2
  refine bn hp2 (aY (by simp) ?_)
  by_cases e : x = 60
  ·rw [if_pos ⟨hlen, by rw [hl, e]; rfl⟩] at hp1
   have : (L s).drop ([60] : B).length = r := by rw [hl]; rfl
   rw [this] at hp1
   exact bn hp1 (aK rfl (h2 g e))
  ·rw [if_neg (fun z => e (by have := z.2; rw [hl] at this; exact (List.cons.inj this).1))] at hp1
   have hb : bt s 0 = (x.toNat : Int) := by
    have := pO s 0
    rw [hl] at this; exact this
   refine bn hp1 (aY (by simp) (aY (by rw [eY, hl]; simp) (aK (by omega) ?_)))
   have h3 := h3 g e
   by_cases e1 : bt s 0 = 94
   ·have : x = 94 := vK (by rw [← hb, e1]; rfl)
    subst this
    exact aK e1 h3
   ·have n1 : x ≠ 94 := fun z => e1 (by rw [hb, z]; rfl)
    refine aY e1 ?_
    have : (x == 94 || x == 126) = (bt s 0 == 126) := by
     rw [show (x == 94) = false from by simpa using n1, Bool.false_or, hb]
     by_cases z : x = 126
     ·subst z; rfl
     ·have z2 : ¬ (x.toNat : Int) = 126 := fun w => z (vK w)
      rw [show (x == 126) = false from by simpa using z]
      exact (by simpa using z2 : ((x.toNat : Int) == 126) = false).symm
    rw [← this]; exact h3
theorem Ob (s : ByteArray) (hs : s.size ≤ 200) {x : UInt8} {r : B} (hl : L s = x :: r) (hx : x = 94 ∨ x = 126) : ∃ a a', Ev (fun k => aJ.f k s) a ∧ Ev (fun k => bV.f k s) a' ∧ Good (L s) a a' := by
 have hsz := fM s
 have hd : yG x = false := by rcases hx with rfl | rfl <;> decide
 have hv : dX (L s) = false := by rw [hl]; exact UZ hd
 have ho : opn (L s) = false := by rw [hl]; rcases hx with rfl | rfl <;> simp [opn]
 have h42 : ¬ L s = [42] := by rw [hl]; intro e; have := (List.cons.inj e).1; rcases hx with rfl | rfl <;> exact absurd this (by decide)
 have ht2 : ¬ (L s).take 2 = [62, 61] := by rw [hl]; intro e; have := (List.cons.inj e).1; rcases hx with rfl | rfl <;> exact absurd this (by decide)
 have h60 : x ≠ 60 := by rcases hx with rfl | rfl <;> decide
 have hb : bt s 0 = (x.toNat : Int) := by have := pO s 0; rw [hl] at this; exact this
 have hr : s.extract 1 s.size = S r := by
  apply mD; rw [kC, lQ, hl, List.drop_one, List.tail_cons, List.take_of_length_le (by rw [hsz, hl, List.length_cons]; omega)]
 have hrl : r.length ≤ 200 := by rw [hl, List.length_cons] at hsz; omega
 have hpos : 1 ≤ s.size := by rw [hsz, hl, List.length_cons]; omega
 generalize hv2 : aI r = v
 obtain ⟨a, b, c, p, ok⟩ := v
 obtain ⟨ha, hbb, hc⟩ := rdV_rng hv2
 have ei := iD (S r) (by rw [fD]; omega)
 have es := eX (S r) (by rw [fD]; omega)
 rw [lQ, hv2] at ei es
 have key : ∃ q, (0 ≤ q ∧ q ≤ 2) ∧ (x = 126 → q = 1) ∧ (x = 94 → jW.f a b c p = some q) ∧ Ev (fun k => bV.f k s) (S r, S (ui a b c q), ok) := by
  have himp : ∀ t : B, Ev (fun k => bV.j0 k s true) (S r, S t, ok) → Ev (fun k => bV.f k s) (S r, S t, ok) := fun t h =>
   Dv s hs hl h42 hv (f := fun _ => none) (fun z => absurd z ht2) (fun _ z => absurd z h60) (fun _ _ => by
    have : (x == 94 || x == 126) = true := by rcases hx with rfl | rfl <;> rfl
    rw [this]; exact h)
  have hz := zp a (b + 1) 0
  rw [← rO (n := b + 1) (by omega) (by omega)] at hz
  rcases hx with rfl | rfl
  ·by_cases ca : a > 0
   ·refine ⟨0, by omega, fun z => absurd z (by decide), fun _ => by unfold jW.f; rw [if_pos ca], himp _ ?_⟩
    have hy := zp (a + 1) 0 0
    rw [← rO (n := a + 1) (by omega) (by omega)] at hy
    refine Ev.step (fun k => by rw [bV.j0, if_pos rfl, if_pos (by omega), hr]) (Ev.bind ei (Ev.bind hz (aK (show 0 < (s.size : Int) by omega) (aK (show bt s 0 = 94 from hb) (aK ca (Ev.bind hy (eH (Ev.now (S r, S (iZ (wrap64 (a + 1)) 0 0 [zeroS]), ok)) ?_)))))))
    rw [up0, rO (n := a + 1) (by omega) (by omega)]
   ·by_cases cb : b = 0
    ·refine ⟨2, by omega, fun z => absurd z (by decide), fun _ => by unfold jW.f; rw [if_neg ca, if_neg (by omega)], himp _ ?_⟩
     have hy := zp 0 0 (c + 1)
     rw [← rO (n := c + 1) (by omega) (by omega)] at hy
     refine Ev.step (fun k => by rw [bV.j0, if_pos rfl, if_pos (by omega), hr]) (Ev.bind ei (Ev.bind hz (aK (show 0 < (s.size : Int) by omega) (aK (show bt s 0 = 94 from hb) (aY ca (aK cb (Ev.bind hy (eH (Ev.now (S r, S (iZ 0 0 (wrap64 (c + 1)) [zeroS]), ok)) ?_))))))))
     have : a = 0 := by omega
     rw [up2, rO (n := c + 1) (by omega) (by omega), this, cb]
    ·refine ⟨1, by omega, fun z => absurd z (by decide), fun _ => by unfold jW.f; rw [if_neg ca, if_pos (by omega)], himp _ ?_⟩
     refine Ev.step (fun k => by rw [bV.j0, if_pos rfl, if_pos (by omega), hr]) (Ev.bind ei (Ev.bind hz (aK (show 0 < (s.size : Int) by omega) (aK (show bt s 0 = 94 from hb) (aY ca (aY cb (eH (Ev.now _) ?_)))))))
     rw [up1, rO (n := b + 1) (by omega) (by omega)]
  ·refine ⟨1, by omega, fun _ => rfl, fun z => absurd z (by decide), himp _ ?_⟩
   have hb94 : ¬ bt s 0 = 94 := fun z => by rw [hb] at z; exact absurd z (by decide)
   refine Ev.step (fun k => by rw [bV.j0, if_pos rfl, if_pos (by omega), hr]) (Ev.bind ei (Ev.bind hz (aK (show 0 < (s.size : Int) by omega) (aY hb94 (eH (Ev.now _) ?_)))))
   rw [up1, rO (n := b + 1) (by omega) (by omega)]
 obtain ⟨q, hq, hq1, hq2, aag⟩ := key
 have Jf : ¬ s.toList = ([42] : List UInt8) := by rw [eY]; exact h42
 by_cases h1 : (s.size : Int) > 1
 ·-- the reference
  have hj : ∀ t : T3S, Ev (fun k => aJ.j0 k s true) t → Ev (fun k => aJ.f k s) t := fun t h => by
   unfold aJ.f
   refine aY Jf (aK h1 (aK (by omega) ?_))
   by_cases e : bt s 0 = 94
   ·exact aK e h
   ·have : (bt s 0 == 126) = true := by
     rcases hx with rfl | rfl
     ·exact absurd hb e
     ·rw [hb]; rfl
    refine aY e ?_
    rw [this]; exact h
  cases ok with
  | false => exact ⟨rW, _, hj _ (Ev.step (fun k => by rw [aJ.j0, if_pos rfl, if_pos (by omega), hr]) (Ev.bind es (aY (show ¬ (a, b, c, p, false).2.2.2.2 = true by simp) (Ev.now _)))), aag, mZ⟩
  | true =>
   have hok := rM hv2
   have h0 : gY a b c [] = true := by
    unfold gY uJ
    rw [decide_eq_true ha, decide_eq_true hbb, decide_eq_true hc]; rfl
   have hbl := QY a b c p q h0 hq.1 hq.2
   have hfrom : Ev (fun k => iI.f k (S r) a b c p q) (if ui a b c q ≠ [] then (S r, S (ui a b c q), true) else rW) := by
    unfold iI.f
    refine Ev.bind hbl ?_
    by_cases e : ui a b c q ≠ []
    ·rw [if_pos e]; exact aK (decide_eq_true e) (Ev.now _)
    ·rw [if_neg e]; exact aY (by rw [decide_eq_true_eq]; exact e) (Ev.now _)
   have hspec : Ev (fun k => aJ.f k s) (if ui a b c q ≠ [] then (S r, S (ui a b c q), true) else rW) := by
    refine hj _ (Ev.step (fun k => by rw [aJ.j0, if_pos rfl, if_pos (by omega), hr]) (Ev.bind es (aK rfl (aK (show 0 < (s.size : Int) by omega) ?_))))
    by_cases e : bt s 0 = 126
    ·have hx1 : x = 126 := vK (by rw [← hb, e]; rfl)
     have := hq1 hx1
     subst this
     exact aK e (Ev.bind hfrom (Ev.now _))
    ·have hx1 : x = 94 := by
      rcases hx with rfl | rfl
      ·rfl
      ·exact absurd hb e
     exact aY e (bn (hq2 hx1) (Ev.bind hfrom (Ev.now _)))
   refine ⟨_, _, hspec, aag, ?_⟩
   have hrv : dX r = true := by unfold dX; rw [hv2]
   have hrn : r ≠ [] := fun e => by rw [e, uo] at hrv; cases hrv
   by_cases e : ui a b c q ≠ []
   ·rw [if_pos e]
    refine .inl ⟨rfl, rfl, .inr ⟨TT hrn, TT e⟩, ?_, ?_⟩
    ·show jX (L (S r)) = true
     rw [lQ]; exact lu hrv
    ·show jX (L (S (ui a b c q))) = true
     rw [lQ]; exact lu (Np e)
   ·rw [if_neg e]
    refine .inr ⟨rfl, .inr ⟨ho, .inr ?_⟩⟩
    show S (ui a b c q) = eS
    rw [Classical.not_not.1 e]; rfl
 ·-- one sign alone
  obtain ⟨t, et, _, ht⟩ := CJ s hs ho
  have ht := ht hv
  have hrn : r = [] := by
   have : (L s).length ≤ 1 := by omega
   rw [hl, List.length_cons] at this
   exact List.eq_nil_of_length_eq_zero (by omega)
  have hko : ok = false := by
   have : dX r = false := by rw [hrn]; exact uo
   unfold dX at this; rw [hv2] at this; exact this
  subst hko
  rw [hl, (Oa hd).1] at ht
  subst ht
  refine ⟨rW, _, ?_, aag, mZ⟩
  unfold aJ.f
  have hlen : (L s).length = 1 := by rw [hl, hrn]; rfl
  have e62 : ¬ bt s 0 = 62 := fun z => by rw [hb] at z; rcases hx with rfl | rfl <;> exact absurd z (by decide)
  have e60 : (bt s 0 == 60) = false := by rw [hb]; rcases hx with rfl | rfl <;> rfl
  refine aY Jf (aY h1 (Ev.step (fun k => by rw [aJ.j0, if_neg (by decide), if_pos (by omega), if_pos (by omega), if_neg e62, e60]) et))
end Go.Proofs.YtieohddolkeegaaGreatDoor.U

end
