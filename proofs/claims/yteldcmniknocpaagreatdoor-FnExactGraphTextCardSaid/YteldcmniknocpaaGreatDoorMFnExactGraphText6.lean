/- A part of the proof that the law FnExactGraphText answers true at every input that its row speaks of. Conditions: the row's own. -/
import Derived.Test.YteldcmniknocpaaGreatDoorMFnExactGraphText5
import Derived.Test.YteldcmniknocpaaGreatDoorKFnExactGraphText0
import Derived.Lib.Strings
import Derived.Test.YteldcmniknocpaaGreatDoorKFnExactGraphText1
import Derived.Lib.Join
import Derived.Lib.Bytealg
import Derived.Lib.IndexMore
import Derived.Test.YteldcmniknocpaaGreatDoorMFnExactGraphText0
section
namespace Go.Proofs.YteldcmniknocpaaGreatDoor.U
open Go Go.RowKit Go.Proofs.YteldcmniknocpaaGreatDoorW.PrintWords Go.Proofs.YteldcmniknocpaaGreatDoor.G
set_option linter.unusedVariables false
set_option linter.unusedSimpArgs false
abbrev nm12 : B := [110, 111, 100, 101, 95, 109, 111, 100, 117, 108, 101, 115]
def nc (c : UInt8) : Bool := decide (97 ≤ c.toNat ∧ c.toNat ≤ 122) || dgt c || c == 46 || c == 95 || c == 45
def noAt (l : B) : B := if l.head? = some 64 then l.drop 1 else l
def partOk (p : B) : Bool := !(p == nm12) && (p.all nc && (p != []))
def headOk (p : B) : Bool := !(p == nm12) && ((noAt p).all nc && (noAt p != []))
def partsOk : List B → Bool
  | [] => true
  | p :: r => headOk p && r.all partOk
def nameOk (l : B) : Bool := partsOk (cutP 47 [] l) && decide (l.length ≤ 60)
theorem cutP_pre (c : UInt8) : ∀ (l p q : B), cutP c (q ++ p) l = match cutP c p l with | [] => [] | x :: r => (q ++ x) :: r
  | [], p, q => rfl
  | y :: l, p, q => by
    unfold cutP
    by_cases h : y = c
    · rw [if_pos h, if_pos h]
    · rw [if_neg h, if_neg h, List.append_assoc, cutP_pre c l (p ++ [y]) q]
theorem impl_NameOk_1_eq (c : UInt8) : impl_NameOk_1.f (c.toNat : Int) = some (nc c) := by
  revert c; refine all_bytes ?_; decide +kernel
theorem spec_nc {α : Type} (c : UInt8) (x y : α) : ((spec_l01Letter.f (c.toNat : Int)).bind fun t484 => (if t484 = true then some x else (if (c.toNat : Int) = 46 then some x else (if (c.toNat : Int) = 95 then some x else (if (c.toNat : Int) = 45 then some x else some y))))) = some (if nc c = true then x else y) := by
  have ha : ∀ c : UInt8, spec_l01Letter.f (c.toNat : Int) = some (decide (97 ≤ c.toNat ∧ c.toNat ≤ 122) || decide (48 ≤ c.toNat ∧ c.toNat ≤ 57)) := by refine all_bytes ?_; decide +kernel
  have hb : ∀ c : UInt8, nc c = (decide (97 ≤ c.toNat ∧ c.toNat ≤ 122) || decide (48 ≤ c.toNat ∧ c.toNat ≤ 57) || decide ((c.toNat : Int) = 46) || decide ((c.toNat : Int) = 95) || decide ((c.toNat : Int) = 45)) := by refine all_bytes ?_; decide +kernel
  rw [ha, hb, Option.bind_some]
  cases decide (97 ≤ c.toNat ∧ c.toNat ≤ 122) || decide (48 ≤ c.toNat ∧ c.toNat ≤ 57) with
  | true => simp
  | false =>
    by_cases h1 : (c.toNat : Int) = 46
    · simp [h1]
    · by_cases h2 : (c.toNat : Int) = 95
      · simp [h1, h2]
      · by_cases h3 : (c.toNat : Int) = 45
        · simp [h1, h2, h3]
        · simp [h1, h2, h3]
theorem spec_nc2 {f g : Nat → Option Bool} (c : UInt8) (k : Nat) : ((spec_l01Letter.f (c.toNat : Int)).bind fun t484 => (if t484 = true then f k else (if (c.toNat : Int) = 46 then f k else (if (c.toNat : Int) = 95 then f k else (if (c.toNat : Int) = 45 then f k else some false))))) = if nc c = true then f k else some false := by
  have h := spec_nc c (f k) (some false)
  have e : ∀ (t : Bool), (if t = true then some (f k) else (if (c.toNat : Int) = 46 then some (f k) else (if (c.toNat : Int) = 95 then some (f k) else (if (c.toNat : Int) = 45 then some (f k) else some (some false))))) = some (if t = true then f k else (if (c.toNat : Int) = 46 then f k else (if (c.toNat : Int) = 95 then f k else (if (c.toNat : Int) = 45 then f k else some false)))) := by
    intro t
    repeat' split
    all_goals rfl
  cases hl : spec_l01Letter.f (c.toNat : Int) with
  | none => rw [hl] at h; cases h
  | some t =>
    rw [hl, Option.bind_some, e] at h
    rw [Option.bind_some, Option.some.inj h]
theorem impl_all_nc (s : ByteArray) (hs : s.size ≤ 1099511627776) : Ev (fun k => impl_all__impl_NameOk_1.f k s) ((L s).all nc) := by
  have hsz := size_L s
  rw [← Bool.and_true ((L s).all nc)]
  refine all_loop (L s) 0 nc true (fun k i => impl_all__impl_NameOk_1.l0 k s (s.size : Int) i) ?_ ?_
  · exact Ev.step (f := fun k => some true) (fun k => by show impl_all__impl_NameOk_1.l0 (k + 1) s _ _ = _; rw [impl_all__impl_NameOk_1.l0, if_neg (by omega)]) (Ev.now _)
  · intro i r hi hr
    rw [getD_at]
    have hb : bt s (i : Int) = ((at_ (L s) i).toNat : Int) := bt_nat s i
    by_cases h : nc (at_ (L s) i) = true
    · rw [h, Bool.true_and]
      refine Ev.step (fun k => ?_) hr
      show impl_all__impl_NameOk_1.l0 (k + 1) s _ _ = _
      rw [impl_all__impl_NameOk_1.l0, if_pos (by omega), if_pos (by omega), if_pos (by omega), hb, impl_NameOk_1_eq, Option.bind_some, if_pos h, wa1 i (by omega)]
    · refine Ev.step (f := fun k => some false) (fun k => ?_) (by simp only [Bool.not_eq_true] at h; rw [h]; exact Ev.now _)
      show impl_all__impl_NameOk_1.l0 (k + 1) s _ _ = _
      rw [impl_all__impl_NameOk_1.l0, if_pos (by omega), if_pos (by omega), if_pos (by omega), hb, impl_NameOk_1_eq, Option.bind_some, if_neg h]
theorem spec_name_l1 (s : ByteArray) (q : List ByteArray) (i : Nat) (hi : i < q.length) (hq : q.length ≤ 1048577) (p : ByteArray) (hp : p.size ≤ 1048577) {r : Bool} (hr : Ev (fun k => spec_NameOk.l0 k s q ((i + 1 : Nat) : Int)) r) :
    Ev (fun k => spec_NameOk.l1 k s q (i : Int) p 0) ((L p).all nc && ((L p != []) && r)) := by
  have hsz := size_L p
  refine all_loop (L p) 0 nc _ (fun k j => spec_NameOk.l1 k s q (i : Int) p j) ?_ ?_
  · refine Ev.step (f := fun k => if p.toList = ([] : List UInt8) then some false else spec_NameOk.l0 k s q ((i + 1 : Nat) : Int)) (fun k => ?_) ?_
    · show spec_NameOk.l1 (k + 1) s q _ p _ = _
      rw [spec_NameOk.l1, if_neg (by omega), wa1 i (by omega)]
    · rw [toList_L]
      by_cases h : L p = []
      · have : (L p != ([] : B)) = false := by rw [h]; rfl
        rw [this, Bool.false_and]; exact ev_pos h (Ev.now _)
      · rw [bne_iff_ne.2 h, Bool.true_and]; exact ev_neg h hr
  · intro j r hj hr
    rw [getD_at]
    have hb : bt p (j : Int) = ((at_ (L p) j).toNat : Int) := bt_nat p j
    have e := fun k => spec_nc2 (f := fun k => spec_NameOk.l1 k s q (i : Int) p ((j + 1 : Nat) : Int)) (g := fun _ => none) (at_ (L p) j) k
    refine Ev.step (f := fun k => if nc (at_ (L p) j) = true then spec_NameOk.l1 k s q (i : Int) p ((j + 1 : Nat) : Int) else some false) (fun k => ?_) ?_
    · show spec_NameOk.l1 (k + 1) s q _ p _ = _
      rw [spec_NameOk.l1, if_pos (by omega), if_pos (by omega), hb, wa1 j (by omega)]
      exact e k
    · by_cases h : nc (at_ (L p) j) = true
      · rw [h, Bool.true_and]; exact ev_pos rfl hr
      · simp only [Bool.not_eq_true] at h; rw [h]; exact ev_neg (by simp) (Ev.now _)
theorem rd_S (q : List B) (i : Nat) : rdOf ByteArray.empty (q.map S) (i : Int) = S (q.getD i []) := by
  show (q.map S).getD i ByteArray.empty = _
  rw [List.getD_eq_getElem?_getD, List.getD_eq_getElem?_getD, List.getElem?_map]
  cases q[i]? <;> rfl
theorem spec_name_l0 (s : ByteArray) (q : List B) (hq : q.length ≤ 1048577) (hm : ∀ x ∈ q, x.length ≤ 1048576) : ∀ d i, i + d = q.length → Ev (fun k => spec_NameOk.l0 k s (q.map S) (i : Int)) ((if i = 0 then partsOk q else (q.drop i).all partOk) && decide (s.size ≤ 60)) := by
  intro d
  induction d with
  | zero =>
    intro i hi
    refine Ev.step (f := fun _ => some (decide ((s.size : Int) ≤ 60))) (fun k => by rw [spec_NameOk.l0, if_neg (by rw [List.length_map]; omega)]) (ev_use (Ev.now _) ?_)
    have e1 : decide ((s.size : Int) ≤ 60) = decide (s.size ≤ 60) := by
      by_cases h : s.size ≤ 60
      · rw [decide_eq_true h, decide_eq_true (by omega)]
      · rw [decide_eq_false h, decide_eq_false (by omega)]
    rw [e1, List.drop_of_length_le (by omega)]
    by_cases h0 : i = 0
    · have : q = [] := List.eq_nil_of_length_eq_zero (by omega)
      rw [if_pos h0, this]; rfl
    · rw [if_neg h0]; rfl
  | succ d ih =>
    intro i hi
    have hlt : i < q.length := by omega
    have hmem : q.getD i [] ∈ q := by rw [List.getD_eq_getElem?_getD, List.getElem?_eq_getElem hlt]; exact List.getElem_mem hlt
    have hml := hm _ hmem
    have hn := ih (i + 1) (by omega)
    rw [if_neg (by omega)] at hn
    have hlm : i < (q.map S).length := by rw [List.length_map]; exact hlt
    have en : (⟨#[]⟩ : ByteArray) = ByteArray.empty := rfl
    by_cases hx : q.getD i [] = nm12
    · refine ev_use (Ev.step (f := fun _ => some false) (fun k => ?_) (Ev.now _)) ?_
      · rw [spec_NameOk.l0, if_pos (by omega), if_pos (by omega), rd_S, toList_S, if_pos hx]
      · by_cases h0 : i = 0
        · rw [if_pos h0]
          cases q with
          | nil => simp at hlt
          | cons x r =>
            subst h0
            have hx' : x = nm12 := hx
            rw [partsOk, headOk, hx']; rfl
        · rw [if_neg h0, drop_getD q i [] hlt, List.all_cons, hx]; rfl
    · have inner : ∀ p : B, p.length ≤ 1048576 → Ev (fun k => spec_NameOk.j2 k s (q.map S) (i : Int) (S p)) (p.all nc && ((p != []) && ((q.drop (i + 1)).all partOk && decide (s.size ≤ 60)))) := fun p hp => by
        have := spec_name_l1 s (q.map S) i hlm (by rw [List.length_map]; omega) (S p) (by rw [size_S]; omega) hn
        rw [L_S] at this
        exact Ev.step (fun k => by rw [spec_NameOk.j2]) this
      have hne : (q.getD i [] == nm12) = false := beq_eq_false_iff_ne.2 hx
      by_cases h0 : i = 0
      · subst h0
        rw [if_pos rfl]
        cases q with
        | nil => simp at hlt
        | cons x r =>
          have hx' : ¬ x = nm12 := hx
          have hne' : (x == nm12) = false := hne
          have hxl : x.length ≤ 1048576 := hml
          have e0 : ((x :: r).getD 0 []) = x := rfl
          rw [partsOk, headOk, hne', Bool.not_false, Bool.true_and]
          have flag : ∀ b : Bool, b = decide (x.head? = some 64) → Ev (fun k => spec_NameOk.j1 k s ((x :: r).map S) 0 (S x) b) (((noAt x).all nc && (noAt x != [])) && r.all partOk && decide (s.size ≤ 60)) := by
            intro b hb
            by_cases hat : x.head? = some 64
            · rw [decide_eq_true hat] at hb
              subst hb
              have en : noAt x = x.drop 1 := if_pos hat
              have hx1 : 1 ≤ x.length := by cases x with
                | nil => simp at hat
                | cons y l => simp
              have eS : (S x).extract 1 (S x).size = S (x.drop 1) := by
                apply L_inj; rw [L_extract, L_S, L_S, size_S, List.take_of_length_le (by rw [List.length_drop]; omega)]
              rw [en]
              refine ev_use (Ev.step (f := fun k => spec_NameOk.j2 k s ((x :: r).map S) 0 (S (x.drop 1))) (fun k => ?_) (inner (x.drop 1) (by rw [List.length_drop]; omega))) ?_
              · rw [spec_NameOk.j1, if_pos rfl, if_pos (by rw [size_S]; omega), eS]
              · show _ = _
                rw [Bool.and_assoc, Bool.and_assoc]; rfl
            · rw [decide_eq_false hat] at hb
              subst hb
              have en : noAt x = x := if_neg hat
              rw [en]
              refine ev_use (Ev.step (f := fun k => spec_NameOk.j2 k s ((x :: r).map S) 0 (S x)) (fun k => ?_) (inner x hxl)) ?_
              · rw [spec_NameOk.j1, if_neg (by decide)]
              · show _ = _
                rw [Bool.and_assoc, Bool.and_assoc]; rfl
          cases x with
          | nil =>
            refine Ev.step (fun k => ?_) (flag false rfl)
            have er : rdOf ByteArray.empty (([] :: r).map S) ((0 : Nat) : Int) = S [] := rd_S ([] :: r) 0
            rw [spec_NameOk.l0, if_pos (by omega), if_pos (by omega), er, toList_S, if_neg hx', if_pos (show ((0 : Nat) : Int) = 0 from rfl), if_neg (by rw [size_S]; simp)]; rfl
          | cons y l =>
            refine Ev.step (fun k => ?_) (flag ((y.toNat : Int) == 64) ?_)
            · have er : rdOf ByteArray.empty (((y :: l) :: r).map S) ((0 : Nat) : Int) = S (y :: l) := rd_S ((y :: l) :: r) 0
              have eb : bt (S (y :: l)) 0 = (y.toNat : Int) := by
                have := bt_nat (S (y :: l)) 0; rw [L_S] at this; exact this
              rw [spec_NameOk.l0, if_pos (by omega), if_pos (by omega), er, toList_S, if_neg hx', if_pos (show ((0 : Nat) : Int) = 0 from rfl), if_pos (by rw [size_S, List.length_cons]; omega), if_pos (by rw [size_S, List.length_cons]; omega), eb]; rfl
            · by_cases h : y = 64
              · subst h; rfl
              · have h1 : ¬ (y.toNat : Int) = 64 := fun e => h (byte_inj (d := 64) e)
                rw [beq_eq_false_iff_ne.2 h1, decide_eq_false]
                intro e; exact h (Option.some.inj e)
      · rw [if_neg h0, drop_getD q i [] hlt, List.all_cons, partOk, hne, Bool.not_false, Bool.true_and]
        refine ev_use (Ev.step (f := fun k => spec_NameOk.j1 k s (q.map S) (i : Int) (S (q.getD i [])) false) (fun k => ?_) (Ev.step (f := fun k => spec_NameOk.j2 k s (q.map S) (i : Int) (S (q.getD i []))) (fun k => ?_) (inner _ hml))) ?_
        · rw [spec_NameOk.l0, if_pos (by omega), if_pos (by omega), rd_S, toList_S, if_neg hx, if_neg (by omega)]
        · rw [spec_NameOk.j1, if_neg (by decide)]
        · rw [Bool.and_assoc, Bool.and_assoc]
theorem parts_len (l : B) (hl : l.length ≤ 1048576) : (cutP 47 [] l).length ≤ 1048577 ∧ ∀ x ∈ cutP 47 [] l, x.length ≤ 1048576 := by
  refine ⟨by have := (cutP_len 47 l []).2; omega, fun x hx => ?_⟩
  have key : ∀ (l p : B), x ∈ cutP 47 p l → x.length ≤ p.length + l.length := by
    intro l
    induction l with
    | nil => intro p h; simp only [cutP, List.mem_singleton] at h; subst h; simp
    | cons y l ih =>
      intro p h
      unfold cutP at h
      by_cases hy : y = 47
      · rw [if_pos hy, List.mem_cons] at h
        rcases h with rfl | h
        · omega
        · have := ih [] h; simp at *; omega
      · rw [if_neg hy] at h
        have := ih _ h; simp at *; omega
  have := key l [] hx
  simp at this; omega
theorem spec_NameOk_ev (s : ByteArray) (hs : s.size ≤ 1048576) : Ev (fun k => spec_NameOk.f k s) (nameOk (L s)) := by
  have hl := size_L s
  have hp := parts_len (L s) (by omega)
  unfold spec_NameOk.f nameOk
  refine Ev.bind (spec_l01Cut_ev s 47 (by omega)) ?_
  have := spec_name_l0 s (cutP 47 [] (L s)) hp.1 hp.2 _ 0 (Nat.zero_add _)
  rw [if_pos rfl, hl] at this
  exact this
def partsI (at0 : Bool) : List B → Bool
  | [] => true
  | p :: r => ((p != []) && ((at0 || !(p == nm12)) && p.all nc)) && r.all partOk
theorem impl_name_l0 (s : ByteArray) (at0 : Bool) (q : List B) (hq : q.length ≤ 1048577) (hm : ∀ x ∈ q, x.length ≤ 1048576) : ∀ d i, i + d = q.length → Ev (fun k => impl_NameOk.l0 k s at0 (q.map S) ((q.map S).length : Int) (i : Int)) ((if i = 0 then partsI at0 q else (q.drop i).all partOk) && decide (s.size ≤ 60)) := by
  intro d
  induction d with
  | zero =>
    intro i hi
    refine Ev.step (f := fun _ => some (decide ((s.size : Int) ≤ 60))) (fun k => by rw [impl_NameOk.l0, if_neg (by rw [List.length_map]; omega)]) (ev_use (Ev.now _) ?_)
    have e1 : decide ((s.size : Int) ≤ 60) = decide (s.size ≤ 60) := by
      by_cases h : s.size ≤ 60
      · rw [decide_eq_true h, decide_eq_true (by omega)]
      · rw [decide_eq_false h, decide_eq_false (by omega)]
    rw [e1, List.drop_of_length_le (by omega)]
    by_cases h0 : i = 0
    · have : q = [] := List.eq_nil_of_length_eq_zero (by omega)
      rw [if_pos h0, this]; rfl
    · rw [if_neg h0]; rfl
  | succ d ih =>
    intro i hi
    have hlt : i < q.length := by omega
    have hmem : q.getD i [] ∈ q := by rw [List.getD_eq_getElem?_getD, List.getElem?_eq_getElem hlt]; exact List.getElem_mem hlt
    have hml := hm _ hmem
    have hn := ih (i + 1) (by omega)
    rw [if_neg (by omega)] at hn
    have hlm : (i : Int) < ((q.map S).length : Int) := by rw [List.length_map]; omega
    have goal : ∀ g : Bool, (g = true → i = 0 ∧ at0 = true) → (i = 0 ∧ at0 = true → g = true) → Ev (fun k => impl_NameOk.l0 k s at0 (q.map S) ((q.map S).length : Int) (i : Int)) (((q.getD i [] != []) && ((g || !(q.getD i [] == nm12)) && (q.getD i []).all nc)) && ((q.drop (i + 1)).all partOk && decide (s.size ≤ 60))) := by
      intro g hg1 hg2
      generalize hx : q.getD i [] = x at hml
      have ha := impl_all_nc (S x) (by rw [size_S]; omega)
      rw [L_S] at ha
      have rest : Ev (fun k => (impl_all__impl_NameOk_1.f k (S x)).bind fun t => if t = true then impl_NameOk.l0 k s at0 (q.map S) ((q.map S).length : Int) ((i + 1 : Nat) : Int) else some false) (x.all nc && ((q.drop (i + 1)).all partOk && decide (s.size ≤ 60))) := by
        refine Ev.bind ha ?_
        by_cases h : x.all nc = true
        · rw [h, Bool.true_and]; exact ev_pos rfl hn
        · simp only [Bool.not_eq_true] at h; rw [h]; exact ev_neg (by simp) (Ev.now _)
      have er : rdOf ByteArray.empty (q.map S) (i : Int) = S x := by rw [rd_S, hx]
      refine Ev.step (f := fun k => if x = ([] : B) then some false else if x = nm12 then (if at0 = true then (if (i : Int) = 0 then ((impl_all__impl_NameOk_1.f k (S x)).bind fun t => if t = true then impl_NameOk.l0 k s at0 (q.map S) ((q.map S).length : Int) ((i + 1 : Nat) : Int) else some false) else some false) else some false) else ((impl_all__impl_NameOk_1.f k (S x)).bind fun t => if t = true then impl_NameOk.l0 k s at0 (q.map S) ((q.map S).length : Int) ((i + 1 : Nat) : Int) else some false)) (fun k => ?_) ?_
      · rw [impl_NameOk.l0, if_pos hlm, if_pos (by omega), if_pos hlm, er, toList_S, wa1 i (by omega)]
      · by_cases h1 : x = []
        · have : (x != ([] : B)) = false := by rw [h1]; rfl
          rw [this]; exact ev_pos h1 (Ev.now _)
        · rw [bne_iff_ne.2 h1, Bool.true_and]
          refine ev_neg h1 ?_
          by_cases h2 : x = nm12
          · have e2 : (x == nm12) = true := beq_iff_eq.2 h2
            rw [e2]
            refine ev_pos h2 ?_
            by_cases h3 : at0 = true
            · refine ev_pos h3 ?_
              by_cases h4 : i = 0
              · rw [hg2 ⟨h4, h3⟩, Bool.true_or, Bool.true_and]; exact ev_pos (by omega) rest
              · have : g = false := by simpa using fun e => h4 (hg1 e).1
                rw [this]; exact ev_neg (by omega) (Ev.now _)
            · have : g = false := by simpa using fun e => h3 (hg1 e).2
              rw [this]; exact ev_neg h3 (Ev.now _)
          · have e2 : (x == nm12) = false := beq_eq_false_iff_ne.2 h2
            rw [e2, Bool.not_false, Bool.or_true, Bool.true_and]
            exact ev_neg h2 rest
    by_cases h0 : i = 0
    · subst h0
      rw [if_pos rfl]
      have := goal at0 (fun h => ⟨rfl, h⟩) (fun h => h.2)
      cases q with
      | nil => simp at hlt
      | cons x r => exact ev_use this (Bool.and_assoc _ _ _).symm
    · rw [if_neg h0, drop_getD q i [] hlt, List.all_cons]
      have ep : partOk (q.getD i []) = ((q.getD i [] != []) && ((false || !(q.getD i [] == nm12)) && (q.getD i []).all nc)) := by
        unfold partOk
        cases (q.getD i [] == nm12) <;> cases (q.getD i []).all nc <;> cases (q.getD i [] != []) <;> rfl
      rw [ep]
      exact ev_use (goal false (fun h => by cases h) (fun h => absurd h.1 h0)) (Bool.and_assoc _ _ _).symm
theorem noAt_eq (l : B) : noAt l = Lib.trimPrefix l [64] := by
  unfold noAt Lib.trimPrefix Lib.hasPrefix
  cases l with
  | nil => rfl
  | cons y r =>
    by_cases h : y = 64
    · subst h; rfl
    · have e : ((64 : UInt8) == y) = false := beq_eq_false_iff_ne.2 fun e => h e.symm
      simp [List.isPrefixOf, e, h]
theorem at_eq0 (l : B) : decide (l.head? = some 64) = Lib.hasPrefix l [64] := by
  unfold Lib.hasPrefix
  cases l with
  | nil => rfl
  | cons y r =>
    by_cases h : y = 64
    · subst h; simp [List.isPrefixOf]
    · have e : ((64 : UInt8) == y) = false := beq_eq_false_iff_ne.2 fun e => h e.symm
      simp [List.isPrefixOf, e, h]
theorem parts_at (l : B) : partsOk (cutP 47 [] l) = partsI (decide (l.head? = some 64)) (cutP 47 [] (noAt l)) := by
  have plain : ∀ x r, noAt x = x → partsOk (x :: r) = (((x != []) && ((!(x == nm12)) && x.all nc)) && r.all partOk) := by
    intro x r e
    rw [partsOk, headOk, e]
    congr 1
    cases (x == nm12) <;> cases x.all nc <;> cases (x != []) <;> rfl
  have hc := (cutP_len 47 (noAt l) []).1
  by_cases h : l.head? = some 64
  · cases l with
    | nil => simp at h
    | cons y r =>
      have hy : y = 64 := Option.some.inj h
      subst hy
      have en : noAt (64 :: r) = r := if_pos rfl
      rw [en] at hc ⊢
      have e1 : cutP 47 [] (64 :: r) = cutP 47 ([64] ++ []) r := by
        rw [cutP, if_neg (by decide)]; rfl
      rw [e1, cutP_pre]
      cases hq : cutP 47 [] r with
      | nil => rw [hq] at hc; simp at hc
      | cons x xs =>
        have e2 : noAt ([64] ++ x) = x := if_pos rfl
        have e3 : (([64] ++ x : B) == nm12) = false := beq_eq_false_iff_ne.2 fun e => by
          have := congrArg List.head? e
          simp [nm12] at this
        show partsOk (([64] ++ x) :: xs) = _
        rw [partsOk, headOk, e2, e3, decide_eq_true h]
        show _ = (((x != []) && (true && x.all nc)) && xs.all partOk)
        congr 1
        cases x.all nc <;> cases (x != []) <;> rfl
  · have en : noAt l = l := if_neg h
    rw [en, decide_eq_false h]
    cases hq : cutP 47 [] l with
    | nil => rfl
    | cons x xs =>
      have e2 : noAt x = x := by
        refine if_neg fun e => h ?_
        cases l with
        | nil => rw [cutP] at hq; cases hq; exact e
        | cons y r =>
          rw [cutP] at hq
          by_cases hy : y = 47
          · rw [if_pos hy] at hq; cases hq; simp at e
          · rw [if_neg hy] at hq
            have := cutP_pre 47 r [] [y]
            rw [List.append_nil] at this
            have hq' : cutP 47 [y] r = x :: xs := hq
            rw [this] at hq'
            cases hz : cutP 47 [] r with
            | nil => rw [hz] at hq'; cases hq'
            | cons z zs =>
              rw [hz] at hq'
              have ez : [y] ++ z = x := (List.cons.inj hq').1
              rw [← ez] at e
              simpa using e
      rw [plain x xs e2]; rfl
theorem impl_NameOk_ev (s : ByteArray) (hs : s.size ≤ 1048576) : Ev (fun k => impl_NameOk.f k s) (nameOk (L s)) := by
  have hl := size_L s
  have hn : (noAt (L s)).length ≤ 1048576 := by
    unfold noAt; split
    · rw [List.length_drop]; omega
    · omega
  have hp := parts_len (noAt (L s)) hn
  unfold impl_NameOk.f nameOk
  have e1 : strings_HasPrefix.f s (⟨#[64]⟩ : ByteArray) = some (decide ((L s).head? = some 64)) := by rw [at_eq0]; rfl
  have e2 : strings_TrimPrefix.f s (⟨#[64]⟩ : ByteArray) = some (S (noAt (L s))) := by rw [noAt_eq]; rfl
  have e3 := split_one (S (noAt (L s))) 47 (by rw [size_S]; omega)
  rw [L_S] at e3
  refine ev_const e1 (ev_const e2 (ev_const e3 ?_))
  have := impl_name_l0 s (decide ((L s).head? = some 64)) (cutP 47 [] (noAt (L s))) hp.1 hp.2 _ 0 (Nat.zero_add _)
  rw [if_pos rfl, ← parts_at, hl] at this
  exact this
def plain1 (c : UInt8) : Bool := decide (33 ≤ c.toNat) && decide (c.toNat ≤ 126) && c != 34 && c != 39 && c != 44 && c != 92
def plainOk (l : B) : Bool := decide (l.length ≤ 100) && l.all plain1
theorem impl_PlainOk_1_eq (c : UInt8) : impl_PlainOk_1.f (c.toNat : Int) = some (plain1 c) := by
  revert c
  refine all_bytes ?_
  decide +kernel
theorem impl_all_plain (s : ByteArray) (hs : s.size ≤ 1099511627776) : Ev (fun k => impl_all__impl_PlainOk_1.f k s) ((L s).all plain1) := by
  refine ev_use (loop_up (fun k i (_ : Unit) => impl_all__impl_PlainOk_1.l0 k s (s.size : Int) i) (L s).length (fun _ _ => True) (fun i _ => ((L s).drop i).all plain1) ?_ ?_ 0 () (by omega) trivial) (by simp)
  · intro st _
    refine Ev.step (f := fun k => some true) (fun k => by rw [impl_all__impl_PlainOk_1.l0, if_neg (by rw [size_L]; omega)]) ?_
    simpa using Ev.now true
  · intro i st hi _ ih
    have hz : (i : Int) < (s.size : Int) := by rw [size_L]; omega
    by_cases h : plain1 (at_ (L s) i) = true
    · refine Ev.step (f := fun k => impl_all__impl_PlainOk_1.l0 k s (s.size : Int) ((i + 1 : Nat) : Int)) (fun k => ?_) (ev_use (ih () trivial) ?_)
      · rw [impl_all__impl_PlainOk_1.l0, if_pos hz, if_pos (by omega), if_pos hz, bt_nat, impl_PlainOk_1_eq, Option.bind_some, if_pos h, inc i (by rw [← size_L] at hi; omega)]
      · rw [drop_at _ _ hi, List.all_cons, h, Bool.true_and]
    · refine Ev.step (f := fun k => some false) (fun k => ?_) ?_
      · rw [impl_all__impl_PlainOk_1.l0, if_pos hz, if_pos (by omega), if_pos hz, bt_nat, impl_PlainOk_1_eq, Option.bind_some, if_neg h]
      · rw [drop_at _ _ hi, List.all_cons]; simp only [Bool.not_eq_true] at h; rw [h]; exact Ev.now _
theorem impl_PlainOk_ev (s : ByteArray) (hs : s.size ≤ 1099511627776) : Ev (fun k => impl_PlainOk.f k s) (plainOk (L s)) := by
  unfold impl_PlainOk.f plainOk
  rw [← size_L]
  by_cases h : (s.size : Int) ≤ 100
  · refine ev_pos h (ev_use (Ev.bind (impl_all_plain s hs) (Ev.now _)) ?_)
    have : s.size ≤ 100 := by omega
    simp [this]
  · refine ev_neg h ?_
    have : ¬ s.size ≤ 100 := by omega
    simpa [this] using Ev.now false
theorem spec_PlainOk_ev (s : ByteArray) (hs : s.size ≤ 1099511627776) : Ev (fun k => spec_PlainOk.f k s) (plainOk (L s)) := by
  have hd : plainOk (L s) = (((L s).drop 0).all plain1 && decide (s.size ≤ 100)) := by
    unfold plainOk; rw [← size_L, Bool.and_comm]; rfl
  rw [hd]
  refine loop_up (fun k i (_ : Unit) => spec_PlainOk.l0 k s i) (L s).length (fun _ _ => True) (fun i _ => ((L s).drop i).all plain1 && decide (s.size ≤ 100)) ?_ ?_ 0 () (by omega) trivial
  · intro st _
    refine Ev.step (f := fun k => some (decide (s.size ≤ 100))) (fun k => ?_) ?_
    · rw [spec_PlainOk.l0, if_neg (by rw [size_L]; omega)]
      by_cases h : s.size ≤ 100
      · rw [if_pos (by omega), decide_eq_true h, decide_eq_true (by omega)]
      · rw [if_neg (by omega), decide_eq_false h]
    · simpa using Ev.now (decide (s.size ≤ 100))
  · intro i st hi _ ih
    have hz : (i : Int) < (s.size : Int) := by rw [size_L]; omega
    have hb := byte_lt (at_ (L s) i)
    by_cases h : plain1 (at_ (L s) i) = true
    · refine Ev.step (f := fun k => spec_PlainOk.l0 k s ((i + 1 : Nat) : Int)) (fun k => ?_) (ev_use (ih () trivial) ?_)
      · rw [spec_PlainOk.l0, if_pos hz, if_pos (by omega), bt_nat, w64 (by omega) (by omega), spec_l01In_eq, Option.bind_some, inc i (by rw [← size_L] at hi; omega)]
        revert h; generalize at_ (L s) i = c; intro h
        have e : ∀ c : UInt8, plain1 c = true → (decide ((33 : Int) ≤ (c.toNat : Int) ∧ (c.toNat : Int) ≤ 126) = true ∧ ¬ (c.toNat : Int) = 34 ∧ ¬ (c.toNat : Int) = 39 ∧ ¬ (c.toNat : Int) = 44 ∧ ¬ (c.toNat : Int) = 92) := all_bytes (by decide +kernel)
        obtain ⟨e1, e2, e3, e4, e5⟩ := e c h
        rw [if_pos e1, if_neg e2, if_neg e3, if_neg e4, if_neg e5]
      · rw [drop_at _ _ hi, List.all_cons, h, Bool.true_and]
    · refine Ev.step (f := fun k => some false) (fun k => ?_) ?_
      · rw [spec_PlainOk.l0, if_pos hz, if_pos (by omega), bt_nat, w64 (by omega) (by omega), spec_l01In_eq, Option.bind_some]
        revert h; generalize at_ (L s) i = c; intro h
        have e : ∀ c : UInt8, ¬ plain1 c = true → ¬ (decide ((33 : Int) ≤ (c.toNat : Int) ∧ (c.toNat : Int) ≤ 126) = true ∧ ¬ (c.toNat : Int) = 34 ∧ ¬ (c.toNat : Int) = 39 ∧ ¬ (c.toNat : Int) = 44 ∧ ¬ (c.toNat : Int) = 92) := all_bytes (by decide +kernel)
        have e := e c h
        by_cases e1 : decide ((33 : Int) ≤ (c.toNat : Int) ∧ (c.toNat : Int) ≤ 126) = true
        · rw [if_pos e1]
          by_cases e2 : (c.toNat : Int) = 34
          · rw [if_pos e2]
          · rw [if_neg e2]
            by_cases e3 : (c.toNat : Int) = 39
            · rw [if_pos e3]
            · rw [if_neg e3]
              by_cases e4 : (c.toNat : Int) = 44
              · rw [if_pos e4]
              · rw [if_neg e4]
                by_cases e5 : (c.toNat : Int) = 92
                · rw [if_pos e5]
                · exact absurd ⟨e1, e2, e3, e4, e5⟩ e
        · rw [if_neg e1]
      · rw [drop_at _ _ hi, List.all_cons]; simp only [Bool.not_eq_true] at h; rw [h]; exact Ev.now _
def vtail (l : List ByteArray) : B := if l = [] then [] else 45 :: Lib.join (l.map L) [46]
def vcore (a b c : Int) : B := Lib.itoa a ++ (46 :: (Lib.itoa b ++ (46 :: Lib.itoa c)))
def vtext (a b c : Int) (l : List ByteArray) : B := if verOk a b c l = true then vcore a b c ++ vtail l else []
theorem num9_is {n : Int} (h : num9 n = true) : 0 ≤ n ∧ n ≤ 999999999 := of_decide_eq_true h
theorem verOk_is {a b c : Int} {l : List ByteArray} (h : verOk a b c l = true) : (0 ≤ a ∧ a ≤ 999999999) ∧ (0 ≤ b ∧ b ≤ 999999999) ∧ (0 ≤ c ∧ c ≤ 999999999) ∧ l.length ≤ 5 ∧ ∀ x ∈ l, preOk (L x) = true := by
  unfold verOk at h
  simp only [Bool.and_eq_true, List.all_eq_true, decide_eq_true_eq] at h
  exact ⟨num9_is h.1.1.1, num9_is h.1.1.2, num9_is h.1.2, h.2.2, h.2.1⟩
theorem preOk_len {l : B} (h : preOk l = true) : 1 ≤ l.length ∧ l.length ≤ 20 := by
  unfold preOk at h
  simp only [Bool.and_eq_true, decide_eq_true_eq] at h
  exact h.2.1
theorem itoa9 {n : Int} (h : 0 ≤ n ∧ n ≤ 999999999) : (Lib.itoa n).length ≤ 9 := by
  have e : n = ((n.toNat : Nat) : Int) := by omega
  rw [e, itoa_nat]
  exact dec_len_le 8 _ (by rw [show 8 + 1 = 9 from rfl, p9]; omega)
theorem joinTail_len : ∀ (r : List ByteArray), (∀ x ∈ r, (L x).length ≤ 20) → (Lib.joinTail [46] (r.map L)).length ≤ 21 * r.length
  | [], _ => by simp [Lib.joinTail]
  | x :: r, h => by
    have := joinTail_len r fun y hy => h y (by simp [hy])
    have hx := h x (by simp)
    unfold Lib.joinTail at *
    rw [List.map_cons, List.map_cons, List.flatten_cons, List.length_append, List.length_append, List.length_cons]
    simp at *; omega
theorem vtail_len {l : List ByteArray} (h5 : l.length ≤ 5) (h : ∀ x ∈ l, (L x).length ≤ 20) : (vtail l).length ≤ 106 := by
  unfold vtail
  cases l with
  | nil => simp
  | cons x r =>
    rw [if_neg (by simp), List.map_cons, Lib.join_cons, List.length_cons, List.length_append]
    have := joinTail_len r fun y hy => h y (by simp [hy])
    have hx := h x (by simp)
    simp at h5; omega
theorem vcore_len {a b c : Int} (ha : 0 ≤ a ∧ a ≤ 999999999) (hb : 0 ≤ b ∧ b ≤ 999999999) (hc : 0 ≤ c ∧ c ≤ 999999999) : (vcore a b c).length ≤ 29 := by
  have := itoa9 ha; have := itoa9 hb; have := itoa9 hc
  unfold vcore; simp; omega
theorem vtext_len (a b c : Int) (l : List ByteArray) : (vtext a b c l).length ≤ 135 := by
  unfold vtext
  by_cases h : verOk a b c l = true
  · obtain ⟨ha, hb, hc, h5, hl⟩ := verOk_is h
    have := vcore_len ha hb hc
    have := vtail_len h5 fun x hx => (preOk_len (hl x hx)).2
    rw [if_pos h, List.length_append]; omega
  · rw [if_neg h]; simp
theorem core_S (a b c : Int) : (((S (Lib.itoa a) ++ (⟨#[46]⟩ : ByteArray)) ++ S (Lib.itoa b)) ++ (⟨#[46]⟩ : ByteArray)) ++ S (Lib.itoa c) = S (vcore a b c) := by
  apply L_inj
  rw [L_S]
  simp only [L_append, L_S]
  show ((Lib.itoa a ++ [46]) ++ Lib.itoa b ++ [46]) ++ Lib.itoa c = _
  unfold vcore; simp
theorem one_size (c : UInt8) : (⟨#[c]⟩ : ByteArray).size = 1 := rfl
theorem put_sep (acc : B) (c : UInt8) (x : ByteArray) : (S acc ++ (⟨#[c]⟩ : ByteArray)) ++ x = S (acc ++ (c :: L x)) := by
  apply L_inj; rw [L_S, L_append, L_append, L_S]
  show (acc ++ [c]) ++ L x = _
  simp
theorem spec_VersionText_l (a b c : Int) (l : List ByteArray) (h5 : l.length ≤ 5) (h20 : ∀ x ∈ l, (L x).length ≤ 20) : ∀ d i (acc : B), i + d = l.length → 1 ≤ i → acc.length ≤ 100 + 21 * i →
    Ev (fun k => spec_VersionText.l0 k (S acc) (i : Int) a b c l) (S (acc ++ Lib.joinTail [46] ((l.drop i).map L))) := by
  intro d
  induction d with
  | zero =>
    intro i acc hi h1 ha
    rw [List.drop_of_length_le (by omega)]
    refine Ev.step (f := fun k => some (S acc)) (fun k => by rw [spec_VersionText.l0, if_neg (by omega)]) (ev_use (Ev.now _) ?_)
    simp [Lib.joinTail]
  | succ d ih =>
    intro i acc hi h1 ha
    have hlt : i < l.length := by omega
    have hm := h20 _ (getD_mem l i ByteArray.empty hlt)
    have ee : rdOf ByteArray.empty l (i : Int) = l.getD i ByteArray.empty := rfl
    rw [drop_getD l i ByteArray.empty hlt, List.map_cons]
    have e2 : Lib.joinTail [46] (L (l.getD i ByteArray.empty) :: (l.drop (i + 1)).map L) = (46 :: L (l.getD i ByteArray.empty)) ++ Lib.joinTail [46] ((l.drop (i + 1)).map L) := by
      unfold Lib.joinTail; rw [List.map_cons, List.flatten_cons]; rfl
    rw [e2, ← List.append_assoc]
    refine Ev.step (fun k => ?_) (ih (i + 1) _ (by omega) (by omega) (by rw [List.length_append, List.length_cons]; omega))
    rw [spec_VersionText.l0, if_pos (by omega), if_neg (by omega), if_pos (by rw [size_S]; omega), if_pos (by omega), ee, if_pos (by rw [ByteArray.size_append, size_S, one_size, size_L]; omega), put_sep, wa1 i (by omega)]
theorem spec_VersionText_ev (a b c : Int) (l : List ByteArray) (hl : l.length ≤ 1125899906842624) (hs : ∀ x ∈ l, x.size ≤ 1099511627776) : Ev (fun k => spec_VersionText.f k a b c l) (S (vtext a b c l)) := by
  unfold spec_VersionText.f vtext
  refine Ev.bind (spec_VersionOk_ev a b c l hl hs) ?_
  by_cases h : verOk a b c l = true
  · obtain ⟨ha, hb, hc, h5, hall⟩ := verOk_is h
    have h20 : ∀ x ∈ l, (L x).length ≤ 20 := fun x hx => (preOk_len (hall x hx)).2
    have la := itoa9 ha; have lb := itoa9 hb; have lc := itoa9 hc
    rw [if_pos h]
    refine ev_pos h (Ev.bind (spec_DecText_ev a (by omega) (by omega)) (ev_pos (by rw [size_S]; omega) (Ev.bind (spec_DecText_ev b (by omega) (by omega)) ?_)))
    refine ev_pos (by rw [ByteArray.size_append, size_S, size_S, one_size]; omega) (ev_pos (by rw [ByteArray.size_append, ByteArray.size_append, size_S, size_S, one_size]; omega) (Ev.bind (spec_DecText_ev c (by omega) (by omega)) ?_))
    refine ev_pos (by simp only [ByteArray.size_append, size_S, one_size]; omega) ?_
    rw [core_S]
    have lv := vcore_len ha hb hc
    cases l with
    | nil =>
      refine Ev.step (f := fun k => some (S (vcore a b c))) (fun k => by rw [spec_VersionText.l0, if_neg (by simp)]) (ev_use (Ev.now _) ?_)
      simp [vtail]
    | cons x r =>
      have hx := h20 x (by simp)
      have e2 : vcore a b c ++ vtail (x :: r) = (vcore a b c ++ (45 :: L x)) ++ Lib.joinTail [46] (((x :: r).drop 1).map L) := by
        unfold vtail
        rw [if_neg (by simp), List.map_cons, Lib.join_cons, List.append_assoc]; rfl
      rw [e2]
      refine Ev.step (fun k => ?_) (spec_VersionText_l a b c (x :: r) h5 h20 r.length 1 _ (by simp; omega) (by omega) (by rw [List.length_append, List.length_cons]; omega))
      have ee : rdOf ByteArray.empty (x :: r) 0 = x := rfl
      rw [spec_VersionText.l0, if_pos (by simp), if_pos rfl, if_pos (by rw [size_S]; omega), if_pos (by omega), ee, if_pos (by rw [ByteArray.size_append, size_S, one_size, size_L]; omega), put_sep, show wrap64 (0 + 1) = ((1 : Nat) : Int) from wa1 0 (by omega)]
  · rw [if_neg h]
    exact ev_neg h (Ev.now _)
theorem join_some (l : List ByteArray) (h5 : l.length ≤ 5) (h20 : ∀ x ∈ l, (L x).length ≤ 20) : strings_Join.f l (⟨#[46]⟩ : ByteArray) = some (S (Lib.join (l.map L) [46])) := by
  unfold strings_Join.f
  have e : (l.map (·.data.toList)) = l.map L := rfl
  have e2 : (⟨#[46]⟩ : ByteArray).data.toList = [46] := rfl
  rw [e, e2, if_pos]
  · rfl
  · refine ⟨by omega, ?_⟩
    cases l with
    | nil => simp [Lib.join, List.intercalate]
    | cons x r =>
      rw [List.map_cons, Lib.join_cons, List.length_append]
      have := joinTail_len r fun y hy => h20 y (by simp [hy])
      have hx := h20 x (by simp)
      simp at h5; omega
theorem impl_VersionText_ev (a b c : Int) (l : List ByteArray) (hl : l.length ≤ 1125899906842624) (hs : ∀ x ∈ l, x.size ≤ 1099511627776) : Ev (fun k => impl_VersionText.f k a b c l) (S (vtext a b c l)) := by
  unfold impl_VersionText.f vtext
  refine Ev.bind (impl_VersionOk_ev a b c l hl hs) ?_
  by_cases h : verOk a b c l = true
  · obtain ⟨ha, hb, hc, h5, hall⟩ := verOk_is h
    have h20 : ∀ x ∈ l, (L x).length ≤ 20 := fun x hx => (preOk_len (hall x hx)).2
    have la := itoa9 ha; have lb := itoa9 hb; have lc := itoa9 hc
    refine ev_pos h ?_
    rw [if_pos h]
    refine ev_const (impl_DecText_eq a (by omega) (by omega)) ?_
    refine ev_pos (by rw [size_S]; omega) (ev_const (impl_DecText_eq b (by omega) (by omega)) ?_)
    refine ev_pos (by rw [ByteArray.size_append, size_S, size_S, one_size]; omega) (ev_pos (by rw [ByteArray.size_append, ByteArray.size_append, size_S, size_S, one_size]; omega) (ev_const (impl_DecText_eq c (by omega) (by omega)) ?_))
    refine ev_pos (by simp only [ByteArray.size_append, size_S, one_size]; omega) ?_
    rw [core_S]
    have lv := vcore_len ha hb hc
    cases l with
    | nil => exact ev_use (ev_neg (by simp) (Ev.now _)) (by simp [vtail])
    | cons x r =>
      have lt := vtail_len h5 h20
      have et : vtail (x :: r) = 45 :: Lib.join ((x :: r).map L) [46] := by unfold vtail; rw [if_neg (by simp)]
      rw [et, List.length_cons] at lt
      rw [et]
      refine ev_pos (by simp only [List.length_cons]; omega) ?_
      refine ev_const (join_some _ h5 h20) ?_
      refine ev_pos (by rw [size_S]; omega) ?_
      refine ev_pos (by simp only [ByteArray.size_append, size_S, one_size]; omega) ?_
      refine ev_use (Ev.now _) ?_
      apply L_inj
      rw [L_append, L_append, L_S, L_S, L_S]; rfl
  · exact ev_use (ev_neg h (Ev.now _)) (by rw [if_neg h]; rfl)
def idx (l : B) (c : UInt8) : Int := Lib.indexByte l c
theorem idx_nil (c : UInt8) : idx [] c = -1 := rfl
theorem idx_cons (b : UInt8) (l : B) (c : UInt8) : idx (b :: l) c = if b = c then 0 else if idx l c = -1 then -1 else idx l c + 1 := by
  show Lib.indexByte (b :: l) c = _
  rw [Lib.indexByte]
  by_cases h : b = c
  · simp [h]
  · simp [h]; rfl
theorem idx_ge (l : B) (c : UInt8) : -1 ≤ idx l c := Lib.indexByte_ge l c
theorem idx_lt (l : B) (c : UInt8) : idx l c < l.length := by
  induction l with
  | nil => rw [idx_nil]; simp
  | cons b l ih =>
    rw [idx_cons, List.length_cons]
    split
    · omega
    · split <;> omega
def idxFrom (l : B) (c : UInt8) (i : Nat) : Int := if idx (l.drop i) c = -1 then -1 else (i : Int) + idx (l.drop i) c
theorem idxFrom_zero (l : B) (c : UInt8) : idxFrom l c 0 = idx l c := by
  unfold idxFrom; rw [List.drop_zero]; split
  · rename_i h; rw [h]
  · simp
theorem spec_l01At_ev (s : ByteArray) (c : UInt8) (hs : s.size ≤ 1099511627776) : Ev (fun k => spec_l01At.f k s (c.toNat : Int)) (idx (L s) c) := by
  rw [← idxFrom_zero]
  refine loop_up (fun k i (_ : Unit) => spec_l01At.l0 k s (c.toNat : Int) i) (L s).length (fun _ _ => True) (fun i _ => idxFrom (L s) c i) ?_ ?_ 0 () (by omega) trivial
  · intro st _
    refine Ev.step (f := fun k => some (-1)) (fun k => by rw [spec_l01At.l0, if_neg (by rw [size_L]; omega)]) ?_
    refine ev_use (Ev.now _) ?_
    unfold idxFrom; rw [List.drop_length, idx_nil, if_pos rfl]
  · intro i st hi _ ih
    have hz : (i : Int) < (s.size : Int) := by rw [size_L]; omega
    by_cases h : at_ (L s) i = c
    · refine Ev.step (f := fun k => some (i : Int)) (fun k => ?_) (ev_use (Ev.now _) ?_)
      · rw [spec_l01At.l0, if_pos hz, if_pos (by omega), bt_nat, h, if_pos rfl]
      · unfold idxFrom; rw [drop_at _ _ hi, idx_cons, if_pos h]; simp
    · refine Ev.step (f := fun k => spec_l01At.l0 k s (c.toNat : Int) ((i + 1 : Nat) : Int)) (fun k => ?_) (ev_use (ih () trivial) ?_)
      · rw [spec_l01At.l0, if_pos hz, if_pos (by omega), bt_nat, if_neg (fun e => h (byte_inj e)), inc i (by rw [← size_L] at hi; omega)]
      · unfold idxFrom; rw [drop_at _ _ hi, idx_cons, if_neg h]
        have := idx_ge ((L s).drop (i + 1)) c
        split
        · rfl
        · rw [if_neg (by omega)]; omega
theorem cutP_mem (c : UInt8) : ∀ (l p x : B), x ∈ cutP c p l → x.length ≤ p.length + l.length := by
  intro l
  induction l with
  | nil => intro p x h; simp only [cutP, List.mem_singleton] at h; subst h; simp
  | cons y l ih =>
    intro p x h
    unfold cutP at h
    by_cases hy : y = c
    · rw [if_pos hy, List.mem_cons] at h
      rcases h with rfl | h
      · omega
      · have := ih [] x h; simp at *; omega
    · rw [if_neg hy] at h
      have := ih _ x h; simp at *; omega
def vhead (l : B) : B := if 0 ≤ idx l 45 then l.take (idx l 45).toNat else l
def vpre (l : B) : List ByteArray := if 0 ≤ idx l 45 then (cutP 46 [] (l.drop ((idx l 45).toNat + 1))).map S else []
def vpart (l : B) (i : Nat) : Int := rdec ((cutP 46 [] (vhead l)).getD i [])
def zeroV : Int × Int × Int × List ByteArray × Bool := (0, 0, 0, [], false)
def readVer (l : B) : Int × Int × Int × List ByteArray × Bool :=
  if (cutP 46 [] (vhead l)).length = 3 ∧ vtext (vpart l 0) (vpart l 1) (vpart l 2) (vpre l) = l then (vpart l 0, vpart l 1, vpart l 2, vpre l, true) else zeroV
theorem vhead_len (l : B) : (vhead l).length ≤ l.length := by
  unfold vhead; split
  · rw [List.length_take]; omega
  · omega
theorem vpre_len (l : B) : (vpre l).length ≤ l.length + 1 := by
  unfold vpre; split
  · rw [List.length_map]; have := (cutP_len 46 (l.drop ((idx l 45).toNat + 1)) []).2; rw [List.length_drop] at this; omega
  · simp
theorem vpre_mem (l : B) : ∀ x ∈ vpre l, x.size ≤ l.length := by
  intro x hx
  unfold vpre at hx
  split at hx
  · obtain ⟨y, hy, rfl⟩ := List.mem_map.1 hx
    have := cutP_mem 46 _ [] y hy
    rw [size_S]; simp at this; omega
  · simp at hx
theorem rd_cut (q : List B) (i : Nat) : rdOf ByteArray.empty (q.map S) (i : Int) = S (q.getD i []) := by
  show (q.map S).getD i ByteArray.empty = _
  rw [List.getD_eq_getElem?_getD, List.getD_eq_getElem?_getD, List.getElem?_map]
  cases q[i]? <;> rfl
theorem getD_len (q : List B) (i n : Nat) (h : ∀ x ∈ q, x.length ≤ n) : (q.getD i []).length ≤ n := by
  rw [List.getD_eq_getElem?_getD]
  cases e : q[i]? with
  | none => simp
  | some y => exact h y (List.mem_of_getElem? e)
theorem head_part (l : B) (i : Nat) : ((cutP 46 [] (vhead l)).getD i []).length ≤ l.length :=
  getD_len _ _ _ fun x hx => by have := cutP_mem 46 _ [] x hx; have := vhead_len l; simp at *; omega
theorem vhead_nil : vhead [] = [] := rfl
theorem three_ne {l : B} (h : (cutP 46 [] (vhead l)).length = 3) : l ≠ [] := by
  rintro rfl
  rw [vhead_nil] at h
  simp [cutP] at h
theorem spec_ReadVersion_j0 (s : ByteArray) (hs : s.size ≤ 1048576) : Ev (fun k => spec_ReadVersion.j0 k s (S (vhead (L s))) 0 0 0 (vpre (L s))) (readVer (L s)) := by
  have hsz := size_L s
  have hh := vhead_len (L s)
  have hc := spec_l01Cut_ev (S (vhead (L s))) 46 (by rw [size_S]; omega)
  rw [L_S] at hc
  have hp : ∀ i, (S ((cutP 46 [] (vhead (L s))).getD i [])).size ≤ 1099511627776 := fun i => by have := head_part (L s) i; rw [size_S]; omega
  have hd : ∀ i, Ev (fun k => spec_ReadDec.f k (S ((cutP 46 [] (vhead (L s))).getD i []))) (vpart (L s) i) := fun i => by
    have := spec_ReadDec_ev _ (hp i); rw [L_S] at this; exact this
  have r0 : rdOf ByteArray.empty ((cutP 46 [] (vhead (L s))).map S) 0 = S ((cutP 46 [] (vhead (L s))).getD 0 []) := rd_cut _ 0
  have r1 : rdOf ByteArray.empty ((cutP 46 [] (vhead (L s))).map S) 1 = S ((cutP 46 [] (vhead (L s))).getD 1 []) := rd_cut _ 1
  have r2 : rdOf ByteArray.empty ((cutP 46 [] (vhead (L s))).map S) 2 = S ((cutP 46 [] (vhead (L s))).getD 2 []) := rd_cut _ 2
  refine Ev.step (fun k => by rw [spec_ReadVersion.j0]) ?_
  refine Ev.bind hc ?_
  rw [List.length_map]
  unfold readVer
  by_cases h3 : (cutP 46 [] (vhead (L s))).length = 3
  · refine ev_pos (by omega) (ev_pos (by omega) ?_)
    rw [r0]
    refine Ev.bind (hd 0) (ev_pos (by omega) ?_)
    rw [r1]
    refine Ev.bind (hd 1) (ev_pos (by omega) ?_)
    rw [r2]
    refine Ev.bind (hd 2) ?_
    have hv := vpre_len (L s); have hm := vpre_mem (L s)
    refine Ev.bind (spec_VersionText_ev _ _ _ _ (by omega) fun x hx => by have := hm x hx; omega) ?_
    rw [toList_S, toList_L]
    by_cases hv : vtext (vpart (L s) 0) (vpart (L s) 1) (vpart (L s) 2) (vpre (L s)) = L s
    · exact ev_use (ev_pos hv (Ev.now _)) (if_pos ⟨h3, hv⟩).symm
    · exact ev_use (ev_neg hv (Ev.now _)) (if_neg fun h => hv h.2).symm
  · exact ev_use (ev_neg (by omega) (Ev.now _)) (if_neg fun h => h3 h.1).symm
theorem spec_ReadVersion_ev (s : ByteArray) (hs : s.size ≤ 1048576) : Ev (fun k => spec_ReadVersion.f k s) (readVer (L s)) := by
  have hsz := size_L s
  have h := spec_ReadVersion_j0 s hs
  have hl := idx_lt (L s) 45
  have hg := idx_ge (L s) 45
  unfold spec_ReadVersion.f
  refine Ev.bind (spec_l01At_ev s 45 (by omega)) ?_
  unfold vhead vpre at h
  by_cases h0 : 0 ≤ idx (L s) 45
  · rw [if_pos h0, if_pos h0] at h
    have hw : wrap64 (idx (L s) 45 + 1) = (((idx (L s) 45).toNat + 1 : Nat) : Int) := by rw [w64 (by omega) (by omega)]; omega
    rw [hw]
    refine ev_pos h0 (ev_pos h0 (ev_pos (by omega) (ev_pos (by omega) (ev_pos (by omega) ?_))))
    have e1 : s.extract ((((idx (L s) 45).toNat + 1 : Nat) : Int)).toNat s.size = S ((L s).drop ((idx (L s) 45).toNat + 1)) := by
      apply L_inj; rw [L_extract, L_S, Int.toNat_natCast, size_L, List.take_of_length_le (by rw [List.length_drop]; omega)]
    have e2 : s.extract 0 (idx (L s) 45).toNat = S ((L s).take (idx (L s) 45).toNat) := by
      apply L_inj; rw [L_extract, L_S, List.drop_zero, Nat.sub_zero]
    have hc := spec_l01Cut_ev (S ((L s).drop ((idx (L s) 45).toNat + 1))) 46 (by rw [size_S, List.length_drop]; omega)
    rw [L_S] at hc
    rw [e1, e2]
    exact Ev.bind hc h
  · rw [if_neg h0, if_neg h0, S_L] at h
    exact ev_neg h0 h
theorem impl_cut (s : ByteArray) (hs : s.size ≤ 1048576) : strings_Cut.f s (⟨#[45]⟩ : ByteArray) = some (S (vhead (L s)), (if 0 ≤ idx (L s) 45 then S ((L s).drop ((idx (L s) 45).toNat + 1)) else ByteArray.empty), decide (0 ≤ idx (L s) 45)) := by
  unfold strings_Cut.f
  rw [if_pos (by omega)]
  have e : (⟨#[45]⟩ : ByteArray).data.toList = [45] := rfl
  have e2 : s.data.toList = L s := rfl
  rw [e, e2]
  unfold Lib.cut
  rw [Lib.index_one]
  show some (_, _, _) = _
  unfold vhead
  by_cases h : 0 ≤ idx (L s) 45
  · have h' : 0 ≤ Lib.indexByte (L s) 45 := h
    rw [if_pos h', if_pos h, if_pos h, decide_eq_true h]; rfl
  · have h' : ¬ 0 ≤ Lib.indexByte (L s) 45 := h
    rw [if_neg h', if_neg h, if_neg h, decide_eq_false h]; rfl
theorem impl_ReadVersion_ev (s : ByteArray) (hs : s.size ≤ 1048576) : Ev (fun k => impl_ReadVersion.f k s) (readVer (L s)) := by
  have hsz := size_L s
  have hh := vhead_len (L s)
  have hl := idx_lt (L s) 45
  have hp : ∀ i, (S ((cutP 46 [] (vhead (L s))).getD i [])).size ≤ 1099511627776 := fun i => by have := head_part (L s) i; rw [size_S]; omega
  have hd : ∀ i, impl_ReadDec.f (S ((cutP 46 [] (vhead (L s))).getD i [])) = some (vpart (L s) i) := fun i => by
    have := impl_ReadDec_eq _ (hp i); rw [L_S] at this; exact this
  have r0 : rdOf ByteArray.empty ((cutP 46 [] (vhead (L s))).map S) 0 = S ((cutP 46 [] (vhead (L s))).getD 0 []) := rd_cut _ 0
  have r1 : rdOf ByteArray.empty ((cutP 46 [] (vhead (L s))).map S) 1 = S ((cutP 46 [] (vhead (L s))).getD 1 []) := rd_cut _ 1
  have r2 : rdOf ByteArray.empty ((cutP 46 [] (vhead (L s))).map S) 2 = S ((cutP 46 [] (vhead (L s))).getD 2 []) := rd_cut _ 2
  have hsp := split_one (S (vhead (L s))) 46 (by rw [size_S]; omega)
  rw [L_S] at hsp
  have e46 : (⟨#[46]⟩ : ByteArray) = S [46] := rfl
  unfold impl_ReadVersion.f
  refine ev_const (impl_cut s hs) ?_
  rw [e46]
  refine ev_const hsp ?_
  rw [List.length_map]
  unfold readVer
  by_cases h3 : (cutP 46 [] (vhead (L s))).length = 3
  · have hne := three_ne h3
    refine ev_pos (by omega) (ev_pos (by omega) ?_)
    rw [r0]
    refine ev_const (hd 0) (ev_pos (by omega) ?_)
    rw [r1]
    refine ev_const (hd 1) (ev_pos (by omega) ?_)
    rw [r2]
    refine ev_const (hd 2) ?_
    have hv := vpre_len (L s); have hm := vpre_mem (L s)
    have ht := impl_VersionText_ev (vpart (L s) 0) (vpart (L s) 1) (vpart (L s) 2) (vpre (L s)) (by omega) fun x hx => by have := hm x hx; omega
    have fin : Ev (fun k => (impl_VersionText.f k (vpart (L s) 0) (vpart (L s) 1) (vpart (L s) 2) (vpre (L s))).bind fun t => if t.toList = s.toList then (if s.toList = ([] : List UInt8) then some (0, 0, 0, ([] : List ByteArray), false) else some (vpart (L s) 0, vpart (L s) 1, vpart (L s) 2, vpre (L s), true)) else some (0, 0, 0, ([] : List ByteArray), false)) (if (cutP 46 [] (vhead (L s))).length = 3 ∧ vtext (vpart (L s) 0) (vpart (L s) 1) (vpart (L s) 2) (vpre (L s)) = L s then (vpart (L s) 0, vpart (L s) 1, vpart (L s) 2, vpre (L s), true) else zeroV) := by
      refine Ev.bind ht ?_
      rw [toList_S, toList_L]
      by_cases hv : vtext (vpart (L s) 0) (vpart (L s) 1) (vpart (L s) 2) (vpre (L s)) = L s
      · exact ev_use (ev_pos hv (ev_neg hne (Ev.now _))) (if_pos ⟨h3, hv⟩).symm
      · exact ev_use (ev_neg hv (Ev.now _)) (if_neg fun h => hv h.2).symm
    by_cases h0 : 0 ≤ idx (L s) 45
    · have hc := split_one (S ((L s).drop ((idx (L s) 45).toNat + 1))) 46 (by rw [size_S, List.length_drop]; omega)
      rw [L_S] at hc
      refine ev_pos (decide_eq_true h0) ?_
      simp only [if_pos h0]
      refine ev_const hc ?_
      have ev : vpre (L s) = (cutP 46 [] ((L s).drop ((idx (L s) 45).toNat + 1))).map S := if_pos h0
      rw [ev] at fin ⊢
      exact fin
    · refine ev_neg (by simpa using h0) ?_
      have ev : vpre (L s) = [] := if_neg h0
      rw [ev] at fin ⊢
      exact fin
  · exact ev_use (ev_neg (by omega) (Ev.now _)) (if_neg fun h => h3 h.1).symm
end Go.Proofs.YteldcmniknocpaaGreatDoor.U

end
section
namespace Go.Proofs.YteldcmniknocpaaGreatDoor.U
open Go Go.RowKit Go.Proofs.YteldcmniknocpaaGreatDoorW.PrintWords Go.Proofs.YteldcmniknocpaaGreatDoor.G
set_option linter.unusedVariables false
def isVer (l : B) : Bool := (readVer l).2.2.2.2
def verOr (l : B) : Bool := isVer l || l == []
theorem isVer_text {l : B} (h : isVer l = true) : ∃ a b c p, vtext a b c p = l ∧ readVer l = (a, b, c, p, true) := by
  unfold isVer at h
  unfold readVer at h ⊢
  split at h
  · rename_i hc
    exact ⟨_, _, _, _, hc.2, by rw [if_pos hc]⟩
  · simp [zeroV] at h
theorem isVer_len {l : B} (h : isVer l = true) : l.length ≤ 135 := by
  obtain ⟨a, b, c, p, e, _⟩ := isVer_text h
  rw [← e]; exact vtext_len _ _ _ _
theorem isVer_nil : isVer [] = false := by
  unfold isVer readVer
  rw [if_neg]
  · rfl
  · rintro ⟨h, _⟩; exact absurd rfl (three_ne h)
theorem verOr_len {l : B} (h : verOr l = true) : l.length ≤ 135 := by
  unfold verOr at h
  rw [Bool.or_eq_true] at h
  rcases h with h | h
  · exact isVer_len h
  · rw [beq_iff_eq] at h; rw [h]; simp
end Go.Proofs.YteldcmniknocpaaGreatDoor.U

end
section
namespace Go.Proofs.YteldcmniknocpaaGreatDoor.U
open Go Go.RowKit Go.Proofs.YteldcmniknocpaaGreatDoorW.PrintWords Go.Proofs.YteldcmniknocpaaGreatDoor.G
set_option linter.unusedVariables false
set_option linter.unusedSimpArgs false
def vup (a b c : Int) (l : List ByteArray) (p : Int) : Int × Int × Int :=
  if p = 0 then (a + 1, 0, 0) else if p = 1 then (a, b + 1, 0) else (a, b, if l.length = 0 then c + 1 else c)
def vnext (a b c : Int) (l : List ByteArray) (p : Int) : Int × Int × Int × List ByteArray :=
  if verOk a b c l = true ∧ 0 ≤ p ∧ p ≤ 2 ∧ verOk (vup a b c l p).1 (vup a b c l p).2.1 (vup a b c l p).2.2 [] = true then ((vup a b c l p).1, (vup a b c l p).2.1, (vup a b c l p).2.2, []) else (a, b, c, l)
theorem verOk_num {a b c : Int} {l : List ByteArray} (h : verOk a b c l = true) : (0 ≤ a ∧ a ≤ 999999999) ∧ (0 ≤ b ∧ b ≤ 999999999) ∧ (0 ≤ c ∧ c ≤ 999999999) := by
  unfold verOk at h
  simp only [Bool.and_eq_true] at h
  exact ⟨of_decide_eq_true h.1.1.1, of_decide_eq_true h.1.1.2, of_decide_eq_true h.1.2⟩
theorem w1 {a : Int} (h : 0 ≤ a ∧ a ≤ 999999999) : wrap64 (a + 1) = a + 1 := w64 (by omega) (by omega)
theorem spec_ok (a b c : Int) : Ev (fun k => spec_VersionOk.f k a b c ([] : List ByteArray)) (verOk a b c []) := spec_VersionOk_ev a b c [] (by simp) (by simp)
theorem ask_ok {g : Nat → Option Bool} {ok : Bool} {x y : Int × Int × Int × List ByteArray} (h : Ev g ok) : Ev (fun k => (g k).bind fun t => if t = true then some x else some y) (if ok = true then x else y) := by
  refine Ev.bind h ?_
  by_cases e : ok = true
  · exact ev_use (ev_pos e (Ev.now _)) (if_pos e).symm
  · exact ev_use (ev_neg e (Ev.now _)) (if_neg e).symm
theorem spec_Next_ev (a b c : Int) (l : List ByteArray) (p : Int) (hl : l.length ≤ 1048576) (hs : ∀ x ∈ l, x.size ≤ 1099511627776) : Ev (fun k => spec_Next.f k a b c l p) (vnext a b c l p) := by
  unfold spec_Next.f
  refine ev_some (ev_pos (by simp only [List.length_nil]; omega) (ev_some (Ev.bind (spec_VersionOk_ev a b c l (by omega) hs) ?_)))
  rw [List.nil_append]
  unfold vnext
  by_cases h : verOk a b c l = true
  · obtain ⟨ha, hb, hc⟩ := verOk_num h
    refine ev_pos h (ev_const (spec_l01In_eq _ _ _) ?_)
    by_cases hp : 0 ≤ p ∧ p ≤ 2
    · rw [decide_eq_true hp]
      refine Ev.step (fun k => by rw [spec_Next.j0]) (ev_neg (by decide) ?_)
      unfold vup
      by_cases h0 : p = 0
      · refine ev_pos h0 (ev_use (ask_ok (by rw [w1 ha]; exact spec_ok _ _ _)) ?_)
        rw [if_pos h0, w1 ha]
        by_cases e : verOk (a + 1) 0 0 [] = true
        · rw [if_pos e, if_pos ⟨h, hp.1, hp.2, e⟩]
        · rw [if_neg e, if_neg fun z => e z.2.2.2]
      · refine ev_neg h0 ?_
        rw [if_neg h0]
        by_cases h1 : p = 1
        · refine ev_pos h1 (ev_use (ask_ok (by rw [w1 hb]; exact spec_ok _ _ _)) ?_)
          rw [if_pos h1, w1 hb]
          by_cases e : verOk a (b + 1) 0 [] = true
          · rw [if_pos e, if_pos ⟨h, hp.1, hp.2, e⟩]
          · rw [if_neg e, if_neg fun z => e z.2.2.2]
        · refine ev_neg h1 ?_
          rw [if_neg h1]
          by_cases h2 : l.length = 0
          · refine ev_pos (by omega) (ev_use (ask_ok (by rw [w1 hc]; exact spec_ok _ _ _)) ?_)
            rw [if_pos h2, w1 hc]
            by_cases e : verOk a b (c + 1) [] = true
            · rw [if_pos e, if_pos ⟨h, hp.1, hp.2, e⟩]
            · rw [if_neg e, if_neg fun z => e z.2.2.2]
          · refine ev_neg (by omega) (ev_use (ask_ok (spec_ok _ _ _)) ?_)
            rw [if_neg h2]
            by_cases e : verOk a b c [] = true
            · rw [if_pos e, if_pos ⟨h, hp.1, hp.2, e⟩]
            · rw [if_neg e, if_neg fun z => e z.2.2.2]
    · rw [decide_eq_false hp]
      refine Ev.step (fun k => by rw [spec_Next.j0]) (ev_pos (by decide) (ev_use (Ev.now _) ?_))
      rw [if_neg fun z => hp ⟨z.2.1, z.2.2.1⟩]
  · refine ev_neg h (Ev.step (fun k => by rw [spec_Next.j0]) (ev_pos rfl (ev_use (Ev.now _) ?_)))
    rw [if_neg fun z => h z.1]
theorem vnext_len (a b c : Int) (l : List ByteArray) (p : Int) : (vnext a b c l p).2.2.2.length ≤ l.length := by
  unfold vnext
  split <;> simp
end Go.Proofs.YteldcmniknocpaaGreatDoor.U

end
section
namespace Go.Proofs.YteldcmniknocpaaGreatDoor.U
open Go Go.RowKit Go.Proofs.YteldcmniknocpaaGreatDoor.G
theorem clone_some (l : List ByteArray) (hl : l.length ≤ 1048577) : slices_Clone_string_string.f l = some l := by
  unfold slices_Clone_string_string.f; rw [if_pos (by omega)]
end Go.Proofs.YteldcmniknocpaaGreatDoor.U

end
section
namespace Go.Proofs.YteldcmniknocpaaGreatDoor.U
open Go Go.RowKit Go.Proofs.YteldcmniknocpaaGreatDoorW.PrintWords Go.Proofs.YteldcmniknocpaaGreatDoor.G
set_option linter.unusedVariables false
set_option linter.unusedSimpArgs false
def zeroS : ByteArray := ⟨#[48]⟩
theorem idx_app (l m : B) (c : UInt8) (h : 0 ≤ idx l c) : idx (l ++ m) c = idx l c := by
  induction l with
  | nil => rw [idx_nil] at h; omega
  | cons x l ih =>
    rw [idx_cons] at h ⊢
    rw [List.cons_append, idx_cons]
    by_cases hx : x = c
    · rw [if_pos hx, if_pos hx]
    · rw [if_neg hx] at h ⊢
      rw [if_neg hx]
      by_cases h1 : idx l c = -1
      · rw [if_pos h1] at h; omega
      · rw [if_neg h1] at h
        have hg := idx_ge l c
        have := ih (by omega)
        rw [this]
theorem cutP_app (c : UInt8) : ∀ (x p y : B), cutP c p (x ++ c :: y) = cutP c p x ++ cutP c [] y := by
  intro x
  induction x with
  | nil => intro p y; simp [cutP]
  | cons z x ih =>
    intro p y
    rw [List.cons_append]
    by_cases hz : z = c
    · simp only [cutP, if_pos hz]; rw [ih]; rfl
    · simp only [cutP, if_neg hz]; rw [ih]
theorem cut_zero : cutP 46 [] [48] = [[48]] := by decide
theorem vhead_app {l : B} (m : B) (h : 0 ≤ idx l 45) : vhead (l ++ m) = vhead l := by
  have hl := idx_lt l 45
  unfold vhead
  rw [idx_app l m 45 h, if_pos h, if_pos h, List.take_append_of_le_length (by omega)]
theorem vpre_app {l : B} (h : 0 ≤ idx l 45) : vpre (l ++ [46, 48]) = vpre l ++ [zeroS] := by
  have hl := idx_lt l 45
  unfold vpre
  rw [idx_app l _ 45 h, if_pos h, if_pos h, List.drop_append_of_le_length (by omega), cutP_app, cut_zero, List.map_append]; rfl
theorem vpre_idx {l : B} (h : vpre l ≠ []) : 0 ≤ idx l 45 := by
  unfold vpre at h
  by_cases h0 : 0 ≤ idx l 45
  · exact h0
  · rw [if_neg h0] at h; exact absurd rfl h
theorem joinTail_app (r : List B) (x : B) : Lib.joinTail [46] (r ++ [x]) = Lib.joinTail [46] r ++ 46 :: x := by
  unfold Lib.joinTail; simp
theorem vtail_app {p : List ByteArray} (h : p ≠ []) : vtail (p ++ [zeroS]) = vtail p ++ [46, 48] := by
  cases p with
  | nil => exact absurd rfl h
  | cons x r =>
    unfold vtail
    rw [if_neg (by simp), if_neg (by simp), List.map_append, List.map_cons, List.cons_append, Lib.join_cons, Lib.join_cons]
    show 45 :: (L x ++ Lib.joinTail [46] (r.map L ++ [[48]])) = _
    rw [joinTail_app]; simp
theorem vtext_ok {a b c : Int} {p : List ByteArray} (h : verOk a b c p = true) : vtext a b c p = vcore a b c ++ vtail p := if_pos h
theorem vtext_no {a b c : Int} {p : List ByteArray} (h : ¬ verOk a b c p = true) : vtext a b c p = [] := if_neg h
theorem vcore_ne (a b c : Int) : vcore a b c ≠ [] := by unfold vcore; simp
theorem vtext_nil (a b c : Int) (p : List ByteArray) : vtext a b c p = [] ↔ ¬ verOk a b c p = true := by
  constructor
  · intro h e
    rw [vtext_ok e, List.append_eq_nil_iff] at h
    exact vcore_ne _ _ _ h.1
  · exact vtext_no
theorem isVer_app {l : B} {a b c : Int} {p : List ByteArray} (hr : readVer l = (a, b, c, p, true)) (hp : p ≠ []) : isVer (l ++ [46, 48]) = verOk a b c (p ++ [zeroS]) ∧ (verOk a b c (p ++ [zeroS]) = true → vtext a b c (p ++ [zeroS]) = l ++ [46, 48]) := by
  unfold readVer at hr
  split at hr
  case isFalse => exact absurd hr (by simp [zeroV])
  rename_i hc
  simp only [Prod.mk.injEq, and_true] at hr
  obtain ⟨ha, hb, hcc, hpp⟩ := hr
  rw [ha, hb, hcc, hpp] at hc
  have hi : 0 ≤ idx l 45 := vpre_idx (by rw [hpp]; exact hp)
  have hv : verOk a b c p = true := by
    by_cases e : verOk a b c p = true
    · exact e
    · have := hc.2; rw [vtext_no e] at this
      exact absurd this.symm (three_ne hc.1)
  have ht : verOk a b c (p ++ [zeroS]) = true → vtext a b c (p ++ [zeroS]) = l ++ [46, 48] := fun e => by
    rw [vtext_ok e, vtail_app hp, ← List.append_assoc, ← vtext_ok hv, hc.2]
  refine ⟨?_, ht⟩
  have h1 : ∀ i, vpart (l ++ [46, 48]) i = vpart l i := fun i => by unfold vpart; rw [vhead_app _ hi]
  unfold isVer readVer
  rw [vhead_app _ hi, vpre_app hi, h1, h1, h1, ha, hb, hcc, hpp]
  by_cases e : verOk a b c (p ++ [zeroS]) = true
  · rw [if_pos ⟨hc.1, ht e⟩, e]
  · rw [if_neg]
    · simp only [Bool.not_eq_true] at e; rw [e]; rfl
    · rintro ⟨_, h2⟩; rw [vtext_no e] at h2; simp at h2
def exactL (s : ByteArray) : List S97 :=
  if (readVer (L s)).2.2.2.2 = true then
    (if vtext (readVer (L s)).1 (readVer (L s)).2.1 (if (readVer (L s)).2.2.2.1 = [] then (readVer (L s)).2.2.1 + 1 else (readVer (L s)).2.2.1) ((readVer (L s)).2.2.2.1 ++ [zeroS]) = [] then []
     else [⟨s, S (vtext (readVer (L s)).1 (readVer (L s)).2.1 (if (readVer (L s)).2.2.2.1 = [] then (readVer (L s)).2.2.1 + 1 else (readVer (L s)).2.2.1) ((readVer (L s)).2.2.2.1 ++ [zeroS]))⟩])
  else []
theorem exactL_of {s : ByteArray} {a b c : Int} {p : List ByteArray} (h : readVer (L s) = (a, b, c, p, true)) :
    exactL s = if vtext a b (if p = [] then c + 1 else c) (p ++ [zeroS]) = [] then [] else [⟨s, S (vtext a b (if p = [] then c + 1 else c) (p ++ [zeroS]))⟩] := by
  unfold exactL; rw [h]; rfl
theorem exactL_no {s : ByteArray} (h : ¬ (readVer (L s)).2.2.2.2 = true) : exactL s = [] := by unfold exactL; rw [if_neg h]
theorem read_ok {l : B} {a b c : Int} {p : List ByteArray} (hr : readVer l = (a, b, c, p, true)) : verOk a b c p = true ∧ vtext a b c p = l := by
  unfold readVer at hr
  split at hr
  case isFalse => exact absurd hr (by simp [zeroV])
  rename_i hc
  simp only [Prod.mk.injEq, and_true] at hr
  obtain ⟨ha, hb, hcc, hpp⟩ := hr
  rw [ha, hb, hcc, hpp] at hc
  refine ⟨?_, hc.2⟩
  by_cases e : verOk a b c p = true
  · exact e
  · have := hc.2; rw [vtext_no e] at this
    exact absurd this.symm (three_ne hc.1)
theorem read_len {l : B} {a b c : Int} {p : List ByteArray} {ok : Bool} (hr : readVer l = (a, b, c, p, ok)) : p.length ≤ l.length + 1 ∧ ∀ x ∈ p, x.size ≤ l.length := by
  unfold readVer at hr
  split at hr
  · simp only [Prod.mk.injEq] at hr
    rw [← hr.2.2.2.1]; exact ⟨vpre_len l, vpre_mem l⟩
  · simp only [zeroV, Prod.mk.injEq] at hr
    rw [← hr.2.2.2.1]; simp
theorem zero_pre : preOk (L zeroS) = true := by decide +kernel
theorem verOk_zero {a b c : Int} : verOk a b c [zeroS] = verOk a b c [] := by
  unfold verOk
  simp [zero_pre]
theorem less_eq (a : Int) : spec_l02Less.f a a = some 0 := by unfold spec_l02Less.f; rw [if_neg (by omega), if_neg (by omega)]
theorem less_gt (a : Int) : spec_l02Less.f (a + 1) a = some 1 := by unfold spec_l02Less.f; rw [if_neg (by omega), if_pos (by omega)]
theorem cmp_same (a b c : Int) : Ev (fun k => spec_CompareVersion.f k a b c [] a b c []) 0 := by
  unfold spec_CompareVersion.f
  rw [less_eq, less_eq, less_eq]
  refine ev_some (ev_some (ev_some ?_))
  have st : ∀ i : Nat, i < 3 → ∀ {r : Int}, Ev (fun k => spec_CompareVersion.l0 k [0, 0, 0] ((i + 1 : Nat) : Int) a b c [] a b c []) r → Ev (fun k => spec_CompareVersion.l0 k [0, 0, 0] (i : Int) a b c [] a b c []) r := fun i hi r h => by
    refine Ev.step (fun k => ?_) h
    have e : rd [0, 0, 0] (i : Int) = 0 := by
      match i, hi with
      | 0, _ => rfl
      | 1, _ => rfl
      | 2, _ => rfl
    rw [spec_CompareVersion.l0, if_pos (by omega), if_pos (by omega), if_pos (by simp; omega), if_pos e, wa1 i (by omega)]
  refine st 0 (by omega) (st 1 (by omega) (st 2 (by omega) ?_))
  refine Ev.step (f := fun k => spec_CompareVersion.j1 k true a b c [] a b c []) (fun k => by rw [spec_CompareVersion.l0, if_neg (by omega), if_pos (by simp)]) ?_
  exact Ev.step (f := fun k => some 0) (fun k => by rw [spec_CompareVersion.j1, if_pos rfl, less_eq]; rfl) (Ev.now _)
theorem cmp_up (a b c : Int) : Ev (fun k => spec_CompareVersion.f k a b (c + 1) [] a b c []) 1 := by
  unfold spec_CompareVersion.f
  rw [less_eq, less_eq, less_gt]
  refine ev_some (ev_some (ev_some ?_))
  have st : ∀ i : Nat, i < 2 → ∀ {r : Int}, Ev (fun k => spec_CompareVersion.l0 k [0, 0, 1] ((i + 1 : Nat) : Int) a b (c + 1) [] a b c []) r → Ev (fun k => spec_CompareVersion.l0 k [0, 0, 1] (i : Int) a b (c + 1) [] a b c []) r := fun i hi r h => by
    refine Ev.step (fun k => ?_) h
    have e : rd [0, 0, 1] (i : Int) = 0 := by
      match i, hi with
      | 0, _ => rfl
      | 1, _ => rfl
    rw [spec_CompareVersion.l0, if_pos (by omega), if_pos (by omega), if_pos (by simp; omega), if_pos e, wa1 i (by omega)]
  refine st 0 (by omega) (st 1 (by omega) ?_)
  refine Ev.step (f := fun k => some 1) (fun k => ?_) (Ev.now _)
  rw [spec_CompareVersion.l0, if_pos (by omega), if_pos (by omega), if_pos (by simp), if_neg (by decide)]; rfl
theorem bound_len (a b c : Int) (p : List ByteArray) : (S (vtext a b c p)).size ≤ 1048576 := by have := vtext_len a b c p; rw [size_S]; omega
theorem spec_below_ev (a b c : Int) (p : List ByteArray) (h : verOk a b c [] = true) : Ev (fun k => spec_l03Below.f k a b c p 2) (if verOk a b (c + 1) [] = true then (S (vtext a b (c + 1) [zeroS]), true) else (S [], false)) := by
  unfold spec_l03Below.f
  refine ev_some (Ev.bind (spec_Next_ev a b c [] 2 (by simp) (by simp)) ?_)
  have hn : vnext a b c [] 2 = if verOk a b (c + 1) [] = true then (a, b, c + 1, []) else (a, b, c, []) := by
    unfold vnext vup
    simp only [List.length_nil, if_pos, if_neg (show ¬ (2 : Int) = 0 by decide), if_neg (show ¬ (2 : Int) = 1 by decide)]
    by_cases e : verOk a b (c + 1) [] = true
    · rw [if_pos ⟨h, by decide, by decide, e⟩, if_pos e]
    · rw [if_neg fun z => e z.2.2.2, if_neg e]
  rw [hn]
  by_cases e : verOk a b (c + 1) [] = true
  · rw [if_pos e, if_pos e]
    refine Ev.bind (cmp_up a b c) (ev_neg (by decide) ?_)
    exact Ev.bind (spec_VersionText_ev a b (c + 1) [zeroS] (by simp) (fun x hx => by rw [List.mem_singleton] at hx; subst hx; decide)) (Ev.now _)
  · rw [if_neg e, if_neg e]
    exact Ev.bind (cmp_same a b c) (ev_pos rfl (Ev.now _))
theorem spec_Exact_ev (s : ByteArray) (hs : s.size ≤ 1048576) : Ev (fun k => spec_Exact.f k s) (exactL s) := by
  have hr := spec_ReadVersion_ev s (by omega)
  have hsz := size_L s
  unfold spec_Exact.f
  by_cases hok : (readVer (L s)).2.2.2.2 = true
  · generalize hv : readVer (L s) = v at hr hok
    obtain ⟨a, b, c, p, ok⟩ := v
    have hok' : ok = true := hok
    subst hok'
    obtain ⟨h1, h2⟩ := read_ok hv
    have h135 : (L s).length ≤ 135 := by rw [← h2]; exact vtext_len _ _ _ _
    rw [exactL_of hv]
    have hal : Ev (fun k => spec_l03Alone.f k s) (if vtext a b (if p = [] then c + 1 else c) (p ++ [zeroS]) = [] then ((⟨#[]⟩ : ByteArray), (⟨#[]⟩ : ByteArray), false) else (s, S (vtext a b (if p = [] then c + 1 else c) (p ++ [zeroS])), true)) := by
      unfold spec_l03Alone.f
      refine Ev.bind hr (ev_pos rfl ?_)
      by_cases hp : p = []
      · subst hp
        refine ev_neg (by simp) (Ev.bind (spec_below_ev a b c [] h1) ?_)
        rw [if_pos rfl, List.nil_append]
        have hz := vtext_nil a b (c + 1) [zeroS]
        rw [verOk_zero] at hz
        by_cases e : verOk a b (c + 1) [] = true
        · rw [if_pos e, if_neg (fun z => hz.1 z e)]; exact ev_pos rfl (Ev.now _)
        · rw [if_neg e, if_pos (hz.2 e)]; exact ev_neg (by simp) (Ev.now _)
      · obtain ⟨i1, i2⟩ := isVer_app hv hp
        have hz : (⟨#[46, 48]⟩ : ByteArray) = S [46, 48] := rfl
        have hs2 : s ++ (⟨#[46, 48]⟩ : ByteArray) = S (L s ++ [46, 48]) := by rw [hz]; apply L_inj; rw [L_append, L_S, L_S]
        have hr2 := spec_ReadVersion_ev (S (L s ++ [46, 48])) (by rw [size_S, List.length_append]; simp; omega)
        rw [L_S] at hr2
        refine ev_pos (by cases p with
          | nil => exact absurd rfl hp
          | cons x r => simp only [List.length_cons]; omega) (ev_pos (by omega) ?_)
        rw [hs2]
        refine Ev.bind hr2 ?_
        rw [if_neg hp]
        have hz := vtext_nil a b c (p ++ [zeroS])
        have hiv : (readVer (L s ++ [46, 48])).2.2.2.2 = verOk a b c (p ++ [zeroS]) := i1
        rw [hiv]
        by_cases e : verOk a b c (p ++ [zeroS]) = true
        · rw [if_neg (fun z => hz.1 z e), i2 e]; exact ev_pos e (Ev.now _)
        · rw [if_pos (hz.2 e)]; exact ev_neg e (Ev.now _)
    refine Ev.bind hal ?_
    by_cases e : vtext a b (if p = [] then c + 1 else c) (p ++ [zeroS]) = []
    · rw [if_pos e, if_pos e]; exact ev_neg (by simp) (Ev.now _)
    · rw [if_neg e, if_neg e]; exact ev_pos rfl (Ev.now _)
  · rw [exactL_no hok]
    refine Ev.bind (a := ((⟨#[]⟩ : ByteArray), (⟨#[]⟩ : ByteArray), false)) ?_ (ev_neg (by simp) (Ev.now _))
    unfold spec_l03Alone.f
    exact Ev.bind hr (ev_neg hok (Ev.now _))
theorem zeroPre_ev (a b c : Int) : Ev (fun k => impl_zeroPre.f k a b c) (S (vtext a b c [zeroS])) := by
  unfold impl_zeroPre.f
  exact Ev.bind (impl_VersionText_ev a b c [zeroS] (by simp) (fun x hx => by rw [List.mem_singleton] at hx; subst hx; decide)) (Ev.now _)
theorem impl_alone_ev (a b c : Int) (p : List ByteArray) (hp : p.length ≤ 1048577) (hs : ∀ x ∈ p, x.size ≤ 1099511627776) : Ev (fun k => impl_alone.f k a b c p) (S (vtext a b c p), if p = [] then S (vtext a b (wrap64 (c + 1)) [zeroS]) else S (vtext a b c (p ++ [zeroS]))) := by
  unfold impl_alone.f
  refine Ev.bind (zeroPre_ev _ _ _) ?_
  by_cases h : p = []
  · subst h
    exact ev_neg (by simp) (Ev.bind (impl_VersionText_ev a b c [] (by simp) (by simp)) (Ev.now _))
  · rw [if_neg h]
    refine ev_pos (by cases p with
      | nil => exact absurd rfl h
      | cons x r => simp only [List.length_cons]; omega) (ev_const (clone_some p (by omega)) (ev_pos (by omega) ?_))
    refine Ev.bind (impl_VersionText_ev a b c (p ++ [zeroS]) (by rw [List.length_append]; simp; omega) (fun x hx => by
      rw [List.mem_append, List.mem_singleton] at hx
      rcases hx with hx | rfl
      · exact hs x hx
      · decide)) ?_
    exact Ev.bind (impl_VersionText_ev a b c p (by omega) hs) (Ev.now _)
theorem impl_Exact_ev (s : ByteArray) (hs : s.size ≤ 1048576) : Ev (fun k => impl_Exact.f k s) (exactL s) := by
  have hr := impl_ReadVersion_ev s (by omega)
  have hsz := size_L s
  unfold impl_Exact.f
  generalize hv : readVer (L s) = v at hr
  obtain ⟨a, b, c, p, ok⟩ := v
  obtain ⟨hl, hm⟩ := read_len hv
  refine Ev.bind hr (Ev.bind (impl_alone_ev a b c p (by omega) (fun x hx => by have := hm x hx; omega)) ?_)
  cases ok with
  | false =>
    rw [exactL_no (by rw [hv]; simp)]
    exact ev_neg (by simp) (Ev.now _)
  | true =>
    obtain ⟨h1, h2⟩ := read_ok hv
    have hc := (verOk_num h1).2.2
    rw [exactL_of hv]
    refine ev_pos rfl ?_
    have e : (if p = [] then S (vtext a b (wrap64 (c + 1)) [zeroS]) else S (vtext a b c (p ++ [zeroS]))) = S (vtext a b (if p = [] then c + 1 else c) (p ++ [zeroS])) := by
      by_cases h : p = []
      · subst h; rw [if_pos rfl, if_pos rfl, w1 hc]; rfl
      · rw [if_neg h, if_neg h]
    simp only [e, toList_S, h2, S_L]
    by_cases z : vtext a b (if p = [] then c + 1 else c) (p ++ [zeroS]) = []
    · exact ev_use (ev_pos z (Ev.now _)) (if_pos z).symm
    · exact ev_use (ev_neg z (Ev.now _)) (if_neg z).symm
theorem exactL_len (s : ByteArray) : (exactL s).length ≤ 1 := by
  unfold exactL
  repeat' split
  all_goals simp
def sumLen (a : B) : Int := if a = [115, 104, 97, 49] then 20 else if a = [115, 104, 97, 50, 53, 54] ∨ a = [104, 49] then 32 else if a = [115, 104, 97, 53, 49, 50] then 64 else -1
theorem impl_sumLength_ev (a : ByteArray) : Ev (fun k => impl_sumLength.f k a) (sumLen (L a)) := by
  unfold impl_sumLength.f sumLen
  rw [toList_L]
  generalize hx : L a = x
  have step : ∀ b : Bool, Ev (fun k => impl_sumLength.j0 k a b) (if b = true then 32 else if x = [115, 104, 97, 53, 49, 50] then 64 else -1) := fun b => by
    refine Ev.step (f := fun _ => if b = true then some 32 else if x = [115, 104, 97, 53, 49, 50] then some 64 else some (-1)) (fun k => by rw [impl_sumLength.j0, toList_L, hx]) ?_
    repeat' split
    all_goals exact Ev.now _
  by_cases h1 : x = [115, 104, 97, 49]
  · rw [if_pos h1]; exact ev_pos h1 (Ev.now _)
  · rw [if_neg h1]
    refine ev_neg h1 ?_
    by_cases h2 : x = [115, 104, 97, 50, 53, 54]
    · refine ev_pos h2 (ev_use (step _) ?_)
      rw [beq_iff_eq.2 h2, if_pos rfl, if_pos (Or.inl h2)]
    · refine ev_neg h2 (ev_use (step _) ?_)
      by_cases h3 : x = [104, 49]
      · rw [beq_iff_eq.2 h3, if_pos rfl, if_pos (Or.inr h3)]
      · rw [beq_eq_false_iff_ne.2 h3, if_neg (by decide), if_neg (show ¬ (x = [115, 104, 97, 50, 53, 54] ∨ x = [104, 49]) from fun e => e.elim h2 h3)]
theorem spec_l04Long_ev (a : ByteArray) : Ev (fun k => spec_l04Long.f k a) (sumLen (L a)) := by
  unfold spec_l04Long.f sumLen
  rw [toList_L]
  generalize hx : L a = x
  have step : ∀ b : Bool, Ev (fun k => spec_l04Long.j0 k a b) (if b = true then 32 else if x = [115, 104, 97, 53, 49, 50] then 64 else -1) := fun b => by
    refine Ev.step (f := fun _ => if b = true then some 32 else if x = [115, 104, 97, 53, 49, 50] then some 64 else some (-1)) (fun k => by rw [spec_l04Long.j0, toList_L, hx]) ?_
    repeat' split
    all_goals exact Ev.now _
  by_cases h1 : x = [115, 104, 97, 49]
  · rw [if_pos h1]; exact ev_pos h1 (Ev.now _)
  · rw [if_neg h1]
    refine ev_neg h1 ?_
    by_cases h2 : x = [115, 104, 97, 50, 53, 54]
    · refine ev_pos h2 (ev_use (step _) ?_)
      rw [beq_iff_eq.2 h2, if_pos rfl, if_pos (Or.inl h2)]
    · refine ev_neg h2 (ev_use (step _) ?_)
      by_cases h3 : x = [104, 49]
      · rw [beq_iff_eq.2 h3, if_pos rfl, if_pos (Or.inr h3)]
      · rw [beq_eq_false_iff_ne.2 h3, if_neg (by decide), if_neg (show ¬ (x = [115, 104, 97, 50, 53, 54] ∨ x = [104, 49]) from fun e => e.elim h2 h3)]
def sum1 (x : S51) : Bool := decide ((x.f1.size : Int) = sumLen (L x.f0))
def sumAt (l : List S51) (i : Nat) : Bool := sum1 (l.getD i z51) && (decide (i = 0) || Op.bytesLess (L (l.getD (i - 1) z51).f0) (L (l.getD i z51).f0))
def sumsFrom (l : List S51) : Nat → Nat → Bool
  | 0, _ => true
  | d + 1, i => sumAt l i && sumsFrom l d (i + 1)
def sumsOk (l : List S51) : Bool := sumsFrom l l.length 0
theorem ask_less {l : List S51} {i : Nat} {c : Bool} {f : Nat → Option Bool} {r : Bool} (hr : Ev f r) (hi : i < l.length) {F : Nat → Option Bool}
    (hF : ∀ k, F k = if (i : Int) > 0 then (if (0 : Int) ≤ wrap64 ((i : Int) - 1) then (if wrap64 ((i : Int) - 1) < (l.length : Int) then (if (Op.bytesLess (rd_T51 l (wrap64 ((i : Int) - 1))).f0.toList (rd_T51 l (i : Int)).f0.toList) = true then f k else some false) else none) else none) else f k) (hn : l.length ≤ 1048576) :
    Ev F ((decide (i = 0) || Op.bytesLess (L (l.getD (i - 1) z51).f0) (L (l.getD i z51).f0)) && r) := by
  have e : F = fun k => if (i : Int) > 0 then (if (0 : Int) ≤ wrap64 ((i : Int) - 1) then (if wrap64 ((i : Int) - 1) < (l.length : Int) then (if (Op.bytesLess (rd_T51 l (wrap64 ((i : Int) - 1))).f0.toList (rd_T51 l (i : Int)).f0.toList) = true then f k else some false) else none) else none) else f k := funext hF
  rw [e]
  by_cases h0 : i = 0
  · rw [decide_eq_true h0, Bool.true_or, Bool.true_and]; exact ev_neg (by omega) hr
  · have w : wrap64 ((i : Int) - 1) = ((i - 1 : Nat) : Int) := by rw [w64 (by omega) (by omega)]; omega
    have e1 : rd_T51 l (((i - 1 : Nat) : Int)) = l.getD (i - 1) z51 := rfl
    have e2 : rd_T51 l (i : Int) = l.getD i z51 := rfl
    rw [decide_eq_false h0, Bool.false_or, w, e1, e2, toList_L, toList_L]
    refine ev_pos (by omega) (ev_pos (by omega) (ev_pos (by omega) ?_))
    by_cases h : Op.bytesLess (L (l.getD (i - 1) z51).f0) (L (l.getD i z51).f0) = true
    · rw [h, Bool.true_and]; exact ev_pos rfl hr
    · simp only [Bool.not_eq_true] at h; rw [h]; exact ev_neg (by simp) (Ev.now _)
theorem impl_areSums_ev (l : List S51) (hn : l.length ≤ 1048576) : Ev (fun k => impl_areSums.f k l) (sumsOk l) := by
  unfold impl_areSums.f sumsOk
  have key : ∀ d i, i + d = l.length → Ev (fun k => impl_areSums.l0 k l l (l.length : Int) (i : Int)) (sumsFrom l d i) := by
    intro d
    induction d with
    | zero => intro i hi; exact Ev.step (f := fun _ => some true) (fun k => by rw [impl_areSums.l0, if_neg (by omega)]) (Ev.now _)
    | succ d ih =>
      intro i hi
      rw [sumsFrom, sumAt, Bool.and_assoc]
      have hr := ask_less (l := l) (i := i) (c := true) (ih (i + 1) (by omega)) (by omega) (fun _ => rfl) hn
      have e2 : rd_T51 l (i : Int) = l.getD i z51 := rfl
      refine Ev.step (fun k => by rw [impl_areSums.l0, if_pos (by omega), if_pos (by omega), if_pos (by omega), wa1 i (by omega)]) ?_
      refine Ev.bind (impl_sumLength_ev _) ?_
      rw [← e2]
      by_cases h : ((rd_T51 l (i : Int)).f1.size : Int) = sumLen (L (rd_T51 l (i : Int)).f0)
      · rw [sum1, decide_eq_true h, Bool.true_and]; exact ev_pos h hr
      · rw [sum1, decide_eq_false h, Bool.false_and]; exact ev_neg h (Ev.now _)
  exact key l.length 0 (by omega)
theorem impl_PackOk_ev (a0 a1 a2 : ByteArray) (l3 : List S51) (a4 : Bool) (l5 : List ByteArray) (h0 : a0.size ≤ 1048576) (h1 : a1.size ≤ 1048576) (h2 : a2.size ≤ 1048576) (h3 : l3.length ≤ 1048576) : Ev (fun k => impl_PackOk.f k a0 a1 a2 l3 a4 l5) (nameOk (L a0) && (decide ((exactL a1).length = 1) && (plainOk (L a2) && sumsOk l3))) := by
  have hl := exactL_len a1
  unfold impl_PackOk.f
  refine Ev.bind (impl_NameOk_ev a0 h0) ?_
  by_cases c0 : nameOk (L a0) = true
  · rw [c0, Bool.true_and]
    refine ev_pos rfl (Ev.bind (impl_Exact_ev a1 h1) ?_)
    by_cases c1 : (exactL a1).length = 1
    · rw [decide_eq_true c1, Bool.true_and]
      refine ev_pos (by omega) (Ev.bind (impl_PlainOk_ev a2 (by omega)) ?_)
      by_cases c2 : plainOk (L a2) = true
      · rw [c2, Bool.true_and]; exact ev_pos rfl (Ev.bind (impl_areSums_ev l3 h3) (Ev.now _))
      · simp only [Bool.not_eq_true] at c2; rw [c2]; exact ev_neg (by simp) (Ev.now _)
    · rw [decide_eq_false c1]; exact ev_neg (by omega) (Ev.now _)
  · simp only [Bool.not_eq_true] at c0; rw [c0]; exact ev_neg (by simp) (Ev.now _)
theorem spec_PackOk_ev (a0 a1 a2 : ByteArray) (l3 : List S51) (a4 : Bool) (l5 : List ByteArray) (h0 : a0.size ≤ 1048576) (h1 : a1.size ≤ 1048576) (h2 : a2.size ≤ 1048576) (h3 : l3.length ≤ 1048576) : Ev (fun k => spec_PackOk.f k a0 a1 a2 l3 a4 l5) (nameOk (L a0) && (decide ((exactL a1).length = 1) && (plainOk (L a2) && sumsOk l3))) := by
  have hl := exactL_len a1
  have tail : Ev (fun k => (spec_NameOk.f k a0).bind fun t552 => (if t552 = true then ((spec_Exact.f k a1).bind fun t553 => (if (t553.length : Int) = 1 then ((spec_PlainOk.f k a2).bind fun t556 => (some t556)) else (some false))) else (some false))) (nameOk (L a0) && (decide ((exactL a1).length = 1) && plainOk (L a2))) := by
    refine Ev.bind (spec_NameOk_ev a0 h0) ?_
    by_cases c0 : nameOk (L a0) = true
    · rw [c0, Bool.true_and]
      refine ev_pos rfl (Ev.bind (spec_Exact_ev a1 h1) ?_)
      by_cases c1 : (exactL a1).length = 1
      · rw [decide_eq_true c1, Bool.true_and]
        exact ev_pos (by omega) (Ev.bind (spec_PlainOk_ev a2 (by omega)) (Ev.now _))
      · rw [decide_eq_false c1]; exact ev_neg (by omega) (Ev.now _)
    · simp only [Bool.not_eq_true] at c0; rw [c0]; exact ev_neg (by simp) (Ev.now _)
  have key : ∀ d i, i + d = l3.length → Ev (fun k => spec_PackOk.l0 k (i : Int) a0 a1 a2 l3 a4 l5) (sumsFrom l3 d i && (nameOk (L a0) && (decide ((exactL a1).length = 1) && plainOk (L a2)))) := by
    intro d
    induction d with
    | zero =>
      intro i hi
      rw [sumsFrom, Bool.true_and]
      exact Ev.step (fun k => by rw [spec_PackOk.l0, if_neg (by omega)]) tail
    | succ d ih =>
      intro i hi
      rw [sumsFrom, sumAt, Bool.and_assoc, Bool.and_assoc]
      have hr := ask_less (l := l3) (i := i) (c := true) (ih (i + 1) (by omega)) (by omega) (fun _ => rfl) h3
      have e2 : rd_T51 l3 (i : Int) = l3.getD i z51 := rfl
      refine Ev.step (fun k => by rw [spec_PackOk.l0, if_pos (by omega), if_pos (show (0 : Int) ≤ (i : Int) by omega), wa1 i (by omega)]) ?_
      refine Ev.bind (spec_l04Long_ev _) ?_
      rw [← e2]
      by_cases h : ((rd_T51 l3 (i : Int)).f1.size : Int) = sumLen (L (rd_T51 l3 (i : Int)).f0)
      · rw [sum1, decide_eq_true h, Bool.true_and]; exact ev_pos h.symm hr
      · rw [sum1, decide_eq_false h, Bool.false_and]; exact ev_neg (fun e => h e.symm) (Ev.now _)
  unfold spec_PackOk.f
  refine ev_use (key l3.length 0 (by omega)) ?_
  show (sumsOk l3 && _) = _
  cases sumsOk l3 <;> cases nameOk (L a0) <;> cases decide ((exactL a1).length = 1) <;> cases plainOk (L a2) <;> rfl
end Go.Proofs.YteldcmniknocpaaGreatDoor.U

end
section
namespace Go.Proofs.YteldcmniknocpaaGreatDoor.U
open Go Go.RowKit Go.Proofs.YteldcmniknocpaaGreatDoorW.PrintWords Go.Proofs.YteldcmniknocpaaGreatDoor.G
set_option linter.unusedVariables false
set_option maxRecDepth 100000
def w_Sum (f0 : ByteArray) (f1 : ByteArray) : Int := (f0.size : Int) + ((f1.size : Int) + (0))
theorem w_Sum_nonneg (f0 : ByteArray) (f1 : ByteArray) : 0 ≤ w_Sum f0 f1 := by
  unfold w_Sum
  omega
def w_SumS (l : List S124) : Int := wList (fun x => w_Sum x.f0 x.f1) l
theorem w_SumS_nonneg (l : List S124) : 0 ≤ w_SumS l := wList_nonneg fun x _ => w_Sum_nonneg _ _
theorem w_SumS_len (l : List S124) : (l.length : Int) ≤ w_SumS l := wList_len fun x _ => w_Sum_nonneg _ _
theorem w_SumS_mem {l : List S124} {x : S124} (hx : x ∈ l) : w_Sum x.f0 x.f1 ≤ w_SumS l := wList_mem (w := fun x : S124 => w_Sum x.f0 x.f1) (fun x _ => w_Sum_nonneg _ _) hx
def w_Pack (f0 : ByteArray) (f1 : ByteArray) (f2 : ByteArray) (f3 : List S124) (f4 : Bool) (f5 : List ByteArray) : Int := (f0.size : Int) + ((f1.size : Int) + ((f2.size : Int) + (w_SumS f3 + (w_StringS f5 + (0)))))
theorem w_Pack_nonneg (f0 : ByteArray) (f1 : ByteArray) (f2 : ByteArray) (f3 : List S124) (f4 : Bool) (f5 : List ByteArray) : 0 ≤ w_Pack f0 f1 f2 f3 f4 f5 := by
  unfold w_Pack
  have := w_SumS_nonneg f3
  have := w_StringS_nonneg f5
  omega
def w_PackS (l : List S66) : Int := wList (fun x => w_Pack x.f0 x.f1 x.f2 x.f3 x.f4 x.f5) l
theorem w_PackS_nonneg (l : List S66) : 0 ≤ w_PackS l := wList_nonneg fun x _ => w_Pack_nonneg _ _ _ _ _ _
theorem w_PackS_len (l : List S66) : (l.length : Int) ≤ w_PackS l := wList_len fun x _ => w_Pack_nonneg _ _ _ _ _ _
theorem w_PackS_mem {l : List S66} {x : S66} (hx : x ∈ l) : w_Pack x.f0 x.f1 x.f2 x.f3 x.f4 x.f5 ≤ w_PackS l := wList_mem (w := fun x : S66 => w_Pack x.f0 x.f1 x.f2 x.f3 x.f4 x.f5) (fun x _ => w_Pack_nonneg _ _ _ _ _ _) hx
def w_Graph (f0 : List ByteArray) (f1 : List S66) : Int := w_StringS f0 + (w_PackS f1 + (0))
theorem w_Graph_nonneg (f0 : List ByteArray) (f1 : List S66) : 0 ≤ w_Graph f0 f1 := by
  unfold w_Graph
  have := w_StringS_nonneg f0
  have := w_PackS_nonneg f1
  omega
theorem toStringS_ok (l : List ByteArray) (h : l.length ≤ maxLen ∧ ∀ x_ ∈ l, x_.size ≤ maxLen) (hw : w_StringS l ≤ 1048576) : Ev (fun k => laws_toStringS.f k l) (l) := by
  have hl := w_StringS_len l
  have e : ((l.length : Int)).toNat = l.length := Int.toNat_natCast _
  unfold laws_toStringS.f
  rw [e]
  refine ev_pos (by omega) (ev_pos (by omega) ?_)
  have := to_loop l ByteArray.empty (⟨#[]⟩ : ByteArray) id (fun k i st => laws_toStringS.l0 k l st i) h.1 ?_ ?_
  · rw [List.map_id] at this; exact this
  · intro k i st hi hs
    show laws_toStringS.l0 (k + 1) l st (i : Int) = _
    rw [laws_toStringS.l0, if_pos (by omega), if_pos (by omega), if_pos (by omega)]
    rfl
  · intro k st
    show laws_toStringS.l0 (k + 1) l st (l.length : Int) = _
    rw [laws_toStringS.l0, if_neg (by omega)]
theorem toSum_ok (f0 : ByteArray) (h0 : f0.size ≤ maxLen) (f1 : ByteArray) (h1 : f1.size ≤ maxLen) (hw : w_Sum f0 f1 ≤ 1048576) : Ev (fun k => laws_toSum.f f0 f1) (f0, f1) := by
  unfold laws_toSum.f
  exact Ev.now _
def t_Sum (x : S124) : S51 := ⟨x.f0, x.f1⟩
theorem toSumS_ok (l : List S124) (h : l.length ≤ maxLen ∧ ∀ x_ ∈ l, (x_.f0.size ≤ maxLen ∧ x_.f1.size ≤ maxLen)) (hw : w_SumS l ≤ 1048576) : Ev (fun k => laws_toSumS.f k l) (l.map t_Sum) := by
  have hl := w_SumS_len l
  have e : ((l.length : Int)).toNat = l.length := Int.toNat_natCast _
  unfold laws_toSumS.f
  rw [e]
  refine ev_pos (by omega) (ev_pos (by omega) ?_)
  refine to_loop l z124 _ t_Sum (fun k i st => laws_toSumS.l0 k l st i) h.1 ?_ ?_
  · intro k i st hi hs
    show laws_toSumS.l0 (k + 1) l st (i : Int) = _
    rw [laws_toSumS.l0, if_pos (by omega), if_pos (by omega)]
    show (if (i : Int) < (st.length : Int) then _ else none) = _
    rw [if_pos (by omega)]
    rfl
  · intro k st
    show laws_toSumS.l0 (k + 1) l st (l.length : Int) = _
    rw [laws_toSumS.l0, if_neg (by omega)]
theorem toPack_ok (f0 : ByteArray) (h0 : f0.size ≤ maxLen) (f1 : ByteArray) (h1 : f1.size ≤ maxLen) (f2 : ByteArray) (h2 : f2.size ≤ maxLen) (f3 : List S124) (h3 : (f3.length ≤ maxLen ∧ ∀ x_ ∈ f3, (x_.f0.size ≤ maxLen ∧ x_.f1.size ≤ maxLen))) (f4 : Bool)  (f5 : List ByteArray) (h5 : (f5.length ≤ maxLen ∧ ∀ x_ ∈ f5, x_.size ≤ maxLen)) (hw : w_Pack f0 f1 f2 f3 f4 f5 ≤ 1048576) : Ev (fun k => laws_toPack.f k f0 f1 f2 f3 f4 f5) (f0, f1, f2, (f3.map t_Sum), f4, f5) := by
  unfold laws_toPack.f
  unfold w_Pack at hw
  have nf3 := w_SumS_nonneg f3
  have nf5 := w_StringS_nonneg f5
  refine Ev.bind (toSumS_ok f3 h3 (by omega)) ?_
  refine Ev.bind (toStringS_ok f5 h5 (by omega)) ?_
  exact Ev.now _
def t_Pack (x : S66) : S44 := ⟨x.f0, x.f1, x.f2, (x.f3.map t_Sum), x.f4, x.f5⟩
theorem toPackS_ok (l : List S66) (h : l.length ≤ maxLen ∧ ∀ x_ ∈ l, (x_.f0.size ≤ maxLen ∧ (x_.f1.size ≤ maxLen ∧ (x_.f2.size ≤ maxLen ∧ ((x_.f3.length ≤ maxLen ∧ ∀ xx_ ∈ x_.f3, (xx_.f0.size ≤ maxLen ∧ xx_.f1.size ≤ maxLen)) ∧ (True ∧ (x_.f5.length ≤ maxLen ∧ ∀ xx_ ∈ x_.f5, xx_.size ≤ maxLen))))))) (hw : w_PackS l ≤ 1048576) : Ev (fun k => laws_toPackS.f k l) (l.map t_Pack) := by
  have hl := w_PackS_len l
  have e : ((l.length : Int)).toNat = l.length := Int.toNat_natCast _
  unfold laws_toPackS.f
  rw [e]
  refine ev_pos (by omega) (ev_pos (by omega) ?_)
  refine to_loop2 l z66 _ t_Pack (fun k i st => laws_toPackS.l0 k l st i) (fun k x => (laws_toPack.f k x.f0 x.f1 x.f2 x.f3 x.f4 x.f5).bind fun b => some ⟨b.1, b.2.1, b.2.2.1, b.2.2.2.1, b.2.2.2.2.1, b.2.2.2.2.2⟩) h.1 ?_ ?_ ?_
  · intro k i st hi hs
    show laws_toPackS.l0 (k + 1) l st (i : Int) = _
    rw [laws_toPackS.l0, if_pos (by omega), if_pos (by omega), Option.bind_assoc]
    refine Option.bind_congr fun b _ => ?_
    show (if (i : Int) < (st.length : Int) then _ else none) = _
    rw [if_pos (by omega)]
    rfl
  · intro k st
    show laws_toPackS.l0 (k + 1) l st (l.length : Int) = _
    rw [laws_toPackS.l0, if_neg (by omega)]
  · intro x hx
    have hx' := h.2 x hx
    have hm := w_PackS_mem hx
    exact Ev.bind (toPack_ok x.f0 hx'.1 x.f1 hx'.2.1 x.f2 hx'.2.2.1 x.f3 hx'.2.2.2.1 x.f4 x.f5 hx'.2.2.2.2.2 (by omega)) (Ev.now _)
theorem toGraph_ok (f0 : List ByteArray) (h0 : (f0.length ≤ maxLen ∧ ∀ x_ ∈ f0, x_.size ≤ maxLen)) (f1 : List S66) (h1 : (f1.length ≤ maxLen ∧ ∀ x_ ∈ f1, (x_.f0.size ≤ maxLen ∧ (x_.f1.size ≤ maxLen ∧ (x_.f2.size ≤ maxLen ∧ ((x_.f3.length ≤ maxLen ∧ ∀ xx_ ∈ x_.f3, (xx_.f0.size ≤ maxLen ∧ xx_.f1.size ≤ maxLen)) ∧ (True ∧ (x_.f5.length ≤ maxLen ∧ ∀ xx_ ∈ x_.f5, xx_.size ≤ maxLen)))))))) (hw : w_Graph f0 f1 ≤ 1048576) : Ev (fun k => laws_toGraph.f k f0 f1) (f0, (f1.map t_Pack)) := by
  unfold laws_toGraph.f
  unfold w_Graph at hw
  have nf0 := w_StringS_nonneg f0
  have nf1 := w_PackS_nonneg f1
  refine Ev.bind (toStringS_ok f0 h0 (by omega)) ?_
  refine Ev.bind (toPackS_ok f1 h1 (by omega)) ?_
  exact Ev.now _
theorem szStringS_ok (l : List ByteArray) (h : l.length ≤ maxLen ∧ ∀ x_ ∈ l, x_.size ≤ maxLen) : Sz (fun k left => laws_szStringS.f k l left) (w_StringS l) := by
  have hs : ∀ x ∈ l, Sz (fun _ left => if wrap64 (left - (x.size : Int)) < 0 then some (-1) else some (wrap64 (left - (x.size : Int)))) (x.size : Int) := fun x hx => ⟨by omega, fun left hr => sz_last hr (h.2 x hx)⟩
  refine ⟨w_StringS_nonneg l, fun left hr => ?_⟩
  show Ev (fun k => laws_szStringS.f k l left) _
  unfold laws_szStringS.f w_StringS wList
  rw [room_sub hr h.1]
  refine sz_cut' hr (sumW_nonneg fun x hx => (hs x hx).1) fun hb hr => ?_
  refine sz_loop l ByteArray.empty (fun s => (s.size : Int)) (fun k i st => laws_szStringS.l0 k l st i) (fun _ x left => if wrap64 (left - (x.size : Int)) < 0 then some (-1) else some (wrap64 (left - (x.size : Int)))) h.1 ?_ ?_ hs _ hr
  · intro k i st hi
    show laws_szStringS.l0 (k + 1) l st (i : Int) = _
    rw [laws_szStringS.l0, if_pos (by omega), if_pos (by omega)]
    show (if wrap64 (st - ((l.getD i ByteArray.empty).size : Int)) < 0 then some (-1) else laws_szStringS.l0 k l (wrap64 (st - ((l.getD i ByteArray.empty).size : Int))) (wrap64 ((i : Int) + 1))) = _
    generalize wrap64 (st - ((l.getD i ByteArray.empty).size : Int)) = y
    by_cases hy : y < 0
    · simp only [if_pos hy]; rfl
    · simp only [if_neg hy]; show _ = (if y < 0 then _ else _); rw [if_neg hy]
  · intro k st
    show laws_szStringS.l0 (k + 1) l st (l.length : Int) = _
    rw [laws_szStringS.l0, if_neg (by omega)]
theorem szSum_ok (f0 : ByteArray) (h0 : f0.size ≤ maxLen) (f1 : ByteArray) (h1 : f1.size ≤ maxLen) : Sz (fun k left => laws_szSum.f f0 f1 left) (w_Sum f0 f1) := by
  refine ⟨w_Sum_nonneg f0 f1, fun left hr => ?_⟩
  show Ev (fun k => laws_szSum.f f0 f1 left) _
  unfold laws_szSum.f w_Sum
  rw [room_sub hr h0]
  refine sz_cut' hr (by omega) fun hb hr => ?_
  rw [room_sub hr h1]
  refine sz_cut' hr (by omega) fun hb hr => ?_
  exact sz_done hr
theorem szSumS_ok (l : List S124) (h : l.length ≤ maxLen ∧ ∀ x_ ∈ l, (x_.f0.size ≤ maxLen ∧ x_.f1.size ≤ maxLen)) : Sz (fun k left => laws_szSumS.f k l left) (w_SumS l) := by
  have hs : ∀ x ∈ l, Sz (fun k left => laws_szSum.f x.f0 x.f1 left) (w_Sum x.f0 x.f1) := fun x hx => by
    have hx' := h.2 x hx
    exact szSum_ok x.f0 hx'.1 x.f1 hx'.2
  refine ⟨w_SumS_nonneg l, fun left hr => ?_⟩
  show Ev (fun k => laws_szSumS.f k l left) _
  unfold laws_szSumS.f w_SumS wList
  rw [room_sub hr h.1]
  refine sz_cut' hr (sumW_nonneg fun x hx => (hs x hx).1) fun hb hr => ?_
  refine sz_loop l z124 (fun x => w_Sum x.f0 x.f1) (fun k i st => laws_szSumS.l0 k l st i) (fun k x left => laws_szSum.f x.f0 x.f1 left) h.1 ?_ ?_ hs _ hr
  · intro k i st hi
    show laws_szSumS.l0 (k + 1) l st (i : Int) = _
    rw [laws_szSumS.l0, if_pos (by omega), if_pos (by omega)]
    rfl
  · intro k st
    show laws_szSumS.l0 (k + 1) l st (l.length : Int) = _
    rw [laws_szSumS.l0, if_neg (by omega)]
theorem szPack_ok (f0 : ByteArray) (h0 : f0.size ≤ maxLen) (f1 : ByteArray) (h1 : f1.size ≤ maxLen) (f2 : ByteArray) (h2 : f2.size ≤ maxLen) (f3 : List S124) (h3 : (f3.length ≤ maxLen ∧ ∀ x_ ∈ f3, (x_.f0.size ≤ maxLen ∧ x_.f1.size ≤ maxLen))) (f4 : Bool)  (f5 : List ByteArray) (h5 : (f5.length ≤ maxLen ∧ ∀ x_ ∈ f5, x_.size ≤ maxLen)) : Sz (fun k left => laws_szPack.f k f0 f1 f2 f3 f4 f5 left) (w_Pack f0 f1 f2 f3 f4 f5) := by
  refine ⟨w_Pack_nonneg f0 f1 f2 f3 f4 f5, fun left hr => ?_⟩
  show Ev (fun k => laws_szPack.f k f0 f1 f2 f3 f4 f5 left) _
  unfold laws_szPack.f w_Pack
  have nf3 := w_SumS_nonneg f3
  have nf5 := w_StringS_nonneg f5
  rw [room_sub hr h0]
  refine sz_cut' hr (by omega) fun hb hr => ?_
  rw [room_sub hr h1]
  refine sz_cut' hr (by omega) fun hb hr => ?_
  rw [room_sub hr h2]
  refine sz_cut' hr (by omega) fun hb hr => ?_
  refine sz_call (g := fun k left => laws_szSumS.f k f3 left) (szSumS_ok f3 h3) hr (by omega) fun hb hr => ?_
  refine sz_call (g := fun k left => laws_szStringS.f k f5 left) (szStringS_ok f5 h5) hr (by omega) fun hb hr => ?_
  exact sz_done hr
theorem szPackS_ok (l : List S66) (h : l.length ≤ maxLen ∧ ∀ x_ ∈ l, (x_.f0.size ≤ maxLen ∧ (x_.f1.size ≤ maxLen ∧ (x_.f2.size ≤ maxLen ∧ ((x_.f3.length ≤ maxLen ∧ ∀ xx_ ∈ x_.f3, (xx_.f0.size ≤ maxLen ∧ xx_.f1.size ≤ maxLen)) ∧ (True ∧ (x_.f5.length ≤ maxLen ∧ ∀ xx_ ∈ x_.f5, xx_.size ≤ maxLen))))))) : Sz (fun k left => laws_szPackS.f k l left) (w_PackS l) := by
  have hs : ∀ x ∈ l, Sz (fun k left => laws_szPack.f k x.f0 x.f1 x.f2 x.f3 x.f4 x.f5 left) (w_Pack x.f0 x.f1 x.f2 x.f3 x.f4 x.f5) := fun x hx => by
    have hx' := h.2 x hx
    exact szPack_ok x.f0 hx'.1 x.f1 hx'.2.1 x.f2 hx'.2.2.1 x.f3 hx'.2.2.2.1 x.f4 x.f5 hx'.2.2.2.2.2
  refine ⟨w_PackS_nonneg l, fun left hr => ?_⟩
  show Ev (fun k => laws_szPackS.f k l left) _
  unfold laws_szPackS.f w_PackS wList
  rw [room_sub hr h.1]
  refine sz_cut' hr (sumW_nonneg fun x hx => (hs x hx).1) fun hb hr => ?_
  refine sz_loop l z66 (fun x => w_Pack x.f0 x.f1 x.f2 x.f3 x.f4 x.f5) (fun k i st => laws_szPackS.l0 k l st i) (fun k x left => laws_szPack.f k x.f0 x.f1 x.f2 x.f3 x.f4 x.f5 left) h.1 ?_ ?_ hs _ hr
  · intro k i st hi
    show laws_szPackS.l0 (k + 1) l st (i : Int) = _
    rw [laws_szPackS.l0, if_pos (by omega), if_pos (by omega)]
    rfl
  · intro k st
    show laws_szPackS.l0 (k + 1) l st (l.length : Int) = _
    rw [laws_szPackS.l0, if_neg (by omega)]
theorem szGraph_ok (f0 : List ByteArray) (h0 : (f0.length ≤ maxLen ∧ ∀ x_ ∈ f0, x_.size ≤ maxLen)) (f1 : List S66) (h1 : (f1.length ≤ maxLen ∧ ∀ x_ ∈ f1, (x_.f0.size ≤ maxLen ∧ (x_.f1.size ≤ maxLen ∧ (x_.f2.size ≤ maxLen ∧ ((x_.f3.length ≤ maxLen ∧ ∀ xx_ ∈ x_.f3, (xx_.f0.size ≤ maxLen ∧ xx_.f1.size ≤ maxLen)) ∧ (True ∧ (x_.f5.length ≤ maxLen ∧ ∀ xx_ ∈ x_.f5, xx_.size ≤ maxLen)))))))) : Sz (fun k left => laws_szGraph.f k f0 f1 left) (w_Graph f0 f1) := by
  refine ⟨w_Graph_nonneg f0 f1, fun left hr => ?_⟩
  show Ev (fun k => laws_szGraph.f k f0 f1 left) _
  unfold laws_szGraph.f w_Graph
  have nf0 := w_StringS_nonneg f0
  have nf1 := w_PackS_nonneg f1
  refine sz_call (g := fun k left => laws_szStringS.f k f0 left) (szStringS_ok f0 h0) hr (by omega) fun hb hr => ?_
  refine sz_call (g := fun k left => laws_szPackS.f k f1 left) (szPackS_ok f1 h1) hr (by omega) fun hb hr => ?_
  exact sz_done hr
end Go.Proofs.YteldcmniknocpaaGreatDoor.U

end
section
namespace Go.Proofs.YteldcmniknocpaaGreatDoor.U
open Go Go.RowKit Go.Proofs.YteldcmniknocpaaGreatDoorW.PrintWords Go.Proofs.YteldcmniknocpaaGreatDoor.G
set_option linter.unusedVariables false
theorem law_szt {w left : Int} {g : Nat → Int → Option Int} {f : Nat → Int → Option Bool} (hl : Room left) (hg : Sz g w) (h : w ≤ left → Ev (fun k => f k (left - w)) true) : Ev (fun k => (g k left).bind fun t => if t < 0 then some true else f k t) true := by
  refine Ev.bind (hg.2 left hl) ?_
  by_cases h0 : w ≤ left
  · rw [szOut_pos h0]; exact ev_neg (by omega) (h h0)
  · rw [szOut_neg (by omega)]; exact ev_pos (by omega) (Ev.now _)
def SmallP (x : S44) : Prop := (x.f0.size ≤ 1048576 ∧ x.f1.size ≤ 1048576 ∧ x.f2.size ≤ 1048576) ∧ (x.f3.length ≤ 1048576 ∧ x.f5.length ≤ 1048576) ∧ (∀ y ∈ x.f3, y.f0.size ≤ 1048576 ∧ y.f1.size ≤ 1048576) ∧ ∀ s ∈ x.f5, s.size ≤ 1048576
theorem w_SumS_all {l : List S124} {n : Int} (h : w_SumS l ≤ n) (hn : n ≤ 1048576) : ∀ y ∈ l.map t_Sum, y.f0.size ≤ 1048576 ∧ y.f1.size ≤ 1048576 := fun y hy => by
  obtain ⟨x, hx, rfl⟩ := List.mem_map.1 hy
  have := w_SumS_mem hx
  unfold w_Sum at this
  show x.f0.size ≤ _ ∧ x.f1.size ≤ _
  omega
theorem small_pack {x : S66} (h : w_Pack x.f0 x.f1 x.f2 x.f3 x.f4 x.f5 ≤ 1048576) : SmallP (t_Pack x) := by
  unfold w_Pack at h
  have n3 := w_SumS_nonneg x.f3
  have n5 := w_StringS_nonneg x.f5
  have l3 := w_SumS_len x.f3
  have l5 := w_StringS_len x.f5
  refine ⟨⟨?_, ?_, ?_⟩, ⟨?_, ?_⟩, ?_, ?_⟩
  · show x.f0.size ≤ _; omega
  · show x.f1.size ≤ _; omega
  · show x.f2.size ≤ _; omega
  · show (x.f3.map t_Sum).length ≤ _; rw [List.length_map]; omega
  · show x.f5.length ≤ _; omega
  · exact w_SumS_all (n := w_SumS x.f3) (Int.le_refl _) (by omega)
  · intro s hs
    have := w_StringS_mem (l := x.f5) hs
    omega
theorem small_graph {t : List ByteArray} {p : List S66} (h : w_Graph t p ≤ 1048576) : (t.length ≤ 1048576 ∧ ∀ s ∈ t, s.size ≤ 1048576) ∧ (p.map t_Pack).length ≤ 1048576 ∧ ∀ x ∈ p.map t_Pack, SmallP x := by
  unfold w_Graph at h
  have n1 := w_StringS_nonneg t
  have n2 := w_PackS_nonneg p
  have l1 := w_StringS_len t
  have l2 := w_PackS_len p
  refine ⟨⟨by omega, fun s hs => ?_⟩, by rw [List.length_map]; omega, fun x hx => ?_⟩
  · have := w_StringS_mem (l := t) hs; omega
  · obtain ⟨y, hy, rfl⟩ := List.mem_map.1 hx
    exact small_pack (by have := w_PackS_mem hy; omega)
theorem small_lists {l : List S44} (h : ∀ x ∈ l, SmallP x) (hl : l.length ≤ 1048576) : l.length ≤ maxLen ∧ ∀ x_ ∈ l, (x_.f3.length ≤ maxLen ∧ x_.f5.length ≤ maxLen) :=
  ⟨by unfold maxLen; omega, fun x hx => by have := (h x hx).2.1; unfold maxLen; omega⟩
end Go.Proofs.YteldcmniknocpaaGreatDoor.U

end
section
namespace Go.Proofs.YteldcmniknocpaaGreatDoor.U
open Go Go.RowKit Go.Proofs.YteldcmniknocpaaGreatDoorW.PrintWords Go.Proofs.YteldcmniknocpaaGreatDoor.G
set_option linter.unusedVariables false
set_option linter.unusedSimpArgs false
def keyOf (x : S44) : ByteArray := (x.f0 ++ (⟨#[64]⟩ : ByteArray)) ++ x.f1
def findFrom (key : ByteArray) : List S44 → Nat → Int
  | [], _ => -1
  | x :: l, i => if L (keyOf x) = L key then (i : Int) else findFrom key l (i + 1)
def findL (key : ByteArray) (l : List S44) : Int := findFrom key l 0
theorem key_spec (x : S44) (h : SmallP x) : spec_KeyOf.f x.f0 x.f1 x.f2 x.f3 x.f4 x.f5 = some (keyOf x) := by
  have e1 : (x.f0 ++ (⟨#[64]⟩ : ByteArray)).size = x.f0.size + 1 := by rw [ByteArray.size_append]; rfl
  have := h.1
  unfold spec_KeyOf.f keyOf; rw [if_pos (by omega), if_pos (by rw [e1]; omega)]
theorem key_impl (x : S44) (h : SmallP x) : impl_KeyOf.f x.f0 x.f1 x.f2 x.f3 x.f4 x.f5 = some (keyOf x) := by
  have e1 : (x.f0 ++ (⟨#[64]⟩ : ByteArray)).size = x.f0.size + 1 := by rw [ByteArray.size_append]; rfl
  have := h.1
  unfold impl_KeyOf.f keyOf; rw [if_pos (by omega), if_pos (by rw [e1]; omega)]
theorem spec_Find_ev (t : List ByteArray) (l : List S44) (key : ByteArray) (hl : l.length ≤ 1048576) (hs : ∀ x ∈ l, SmallP x) : Ev (fun k => spec_Find.f k t l key) (findL key l) := by
  unfold spec_Find.f findL
  have go : ∀ d i, i + d = l.length → Ev (fun k => spec_Find.l0 k key (i : Int) t l) (findFrom key (l.drop i) i) := by
    intro d
    induction d with
    | zero =>
      intro i hi
      rw [List.drop_of_length_le (by omega), findFrom]
      exact Ev.step (f := fun _ => some (-1)) (fun k => by rw [spec_Find.l0, if_neg (by omega)]) (Ev.now _)
    | succ d ih =>
      intro i hi
      have hm := hs _ (getD_mem l i z44 (by omega))
      have e2 : rd_T44 l (i : Int) = l.getD i z44 := rfl
      rw [drop_getD l i z44 (by omega), findFrom]
      refine Ev.step (f := fun k => if L (keyOf (l.getD i z44)) = L key then some (i : Int) else spec_Find.l0 k key ((i + 1 : Nat) : Int) t l) (fun k => ?_) ?_
      · rw [spec_Find.l0, if_pos (by omega), if_pos (by omega), e2, key_spec _ hm, Option.bind_some, toList_L, toList_L, wa1 i (by omega)]
      · by_cases h : L (keyOf (l.getD i z44)) = L key
        · rw [if_pos h]; exact ev_pos h (Ev.now _)
        · rw [if_neg h]; exact ev_neg h (ih (i + 1) (by omega))
  have := go l.length 0 (by omega)
  exact this
theorem impl_Find_ev (t : List ByteArray) (l : List S44) (key : ByteArray) (hl : l.length ≤ 1048576) (hs : ∀ x ∈ l, SmallP x) : Ev (fun k => impl_Find.f k t l key) (findL key l) := by
  unfold impl_Find.f impl_Pack__impl_Find_1.f findL
  have go : ∀ d i, i + d = l.length → Ev (fun k => impl_Pack__impl_Find_1.l0 key k l (l.length : Int) (i : Int)) (findFrom key (l.drop i) i) := by
    intro d
    induction d with
    | zero =>
      intro i hi
      rw [List.drop_of_length_le (by omega), findFrom]
      exact Ev.step (f := fun _ => some (-1)) (fun k => by rw [impl_Pack__impl_Find_1.l0, if_neg (by omega)]) (Ev.now _)
    | succ d ih =>
      intro i hi
      have hm := hs _ (getD_mem l i z44 (by omega))
      have e2 : rd_T44 l (i : Int) = l.getD i z44 := rfl
      rw [drop_getD l i z44 (by omega), findFrom]
      refine Ev.step (f := fun k => if (L (keyOf (l.getD i z44)) == L key) = true then some (i : Int) else impl_Pack__impl_Find_1.l0 key k l (l.length : Int) ((i + 1 : Nat) : Int)) (fun k => ?_) ?_
      · rw [impl_Pack__impl_Find_1.l0, if_pos (by omega), if_pos (by omega), if_pos (by omega), e2, impl_Find_1.f, key_impl _ hm, Option.bind_some, toList_L, toList_L, wa1 i (by omega)]; rfl
      · by_cases h : L (keyOf (l.getD i z44)) = L key
        · rw [if_pos h]; exact ev_pos (beq_iff_eq.2 h) (Ev.now _)
        · rw [if_neg h]; exact ev_neg (by rw [beq_iff_eq]; exact h) (ih (i + 1) (by omega))
  have := go l.length 0 (by omega)
  exact Ev.bind this (Ev.now _)
def packOk (x : S44) : Bool := nameOk (L x.f0) && (decide ((exactL x.f1).length = 1) && (plainOk (L x.f2) && sumsOk x.f3))
theorem spec_packOk (x : S44) (h : SmallP x) : Ev (fun k => spec_PackOk.f k x.f0 x.f1 x.f2 x.f3 x.f4 x.f5) (packOk x) := spec_PackOk_ev _ _ _ _ _ _ h.1.1 h.1.2.1 h.1.2.2 h.2.1.1
theorem impl_packOk (x : S44) (h : SmallP x) : Ev (fun k => impl_PackOk.f k x.f0 x.f1 x.f2 x.f3 x.f4 x.f5) (packOk x) := impl_PackOk_ev _ _ _ _ _ _ h.1.1 h.1.2.1 h.1.2.2 h.2.1.1
def keyAt (p : List S44) (l : List ByteArray) (i : Nat) : Bool := decide (0 ≤ findL (l.getD i ByteArray.empty) p) && (decide (i = 0) || Op.bytesLess (L (l.getD (i - 1) ByteArray.empty)) (L (l.getD i ByteArray.empty)))
def keysFrom (p : List S44) (l : List ByteArray) : Nat → Nat → Bool
  | 0, _ => true
  | d + 1, i => keyAt p l i && keysFrom p l d (i + 1)
def keysOk (p : List S44) (l : List ByteArray) : Bool := keysFrom p l l.length 0
def packAt (p : List S44) (i : Nat) : Bool := packOk (p.getD i z44) && (keysOk p (p.getD i z44).f5 && (decide (i = 0) || Op.bytesLess (L (keyOf (p.getD (i - 1) z44))) (L (keyOf (p.getD i z44)))))
def packsFrom (p : List S44) : Nat → Nat → Bool
  | 0, _ => true
  | d + 1, i => packAt p i && packsFrom p d (i + 1)
def graphOk (t : List ByteArray) (p : List S44) : Bool := packsFrom p p.length 0 && (decide (p.length ≤ 40) && keysOk p t)
theorem ask_key {l : List ByteArray} {i : Nat} {f : Nat → Option Bool} {r : Bool} (hr : Ev f r) (hi : i < l.length) {F : Nat → Option Bool}
    (hF : ∀ k, F k = if (i : Int) > 0 then (if (0 : Int) ≤ wrap64 ((i : Int) - 1) then (if wrap64 ((i : Int) - 1) < (l.length : Int) then (if (Op.bytesLess (rdOf ByteArray.empty l (wrap64 ((i : Int) - 1))).toList (rdOf ByteArray.empty l (i : Int)).toList) = true then f k else some false) else none) else none) else f k) (hn : l.length ≤ 1048576) :
    Ev F ((decide (i = 0) || Op.bytesLess (L (l.getD (i - 1) ByteArray.empty)) (L (l.getD i ByteArray.empty))) && r) := by
  have e : F = fun k => if (i : Int) > 0 then (if (0 : Int) ≤ wrap64 ((i : Int) - 1) then (if wrap64 ((i : Int) - 1) < (l.length : Int) then (if (Op.bytesLess (rdOf ByteArray.empty l (wrap64 ((i : Int) - 1))).toList (rdOf ByteArray.empty l (i : Int)).toList) = true then f k else some false) else none) else none) else f k := funext hF
  rw [e]
  by_cases h0 : i = 0
  · rw [decide_eq_true h0, Bool.true_or, Bool.true_and]; exact ev_neg (by omega) hr
  · have w : wrap64 ((i : Int) - 1) = ((i - 1 : Nat) : Int) := by rw [w64 (by omega) (by omega)]; omega
    have e1 : rdOf ByteArray.empty l (((i - 1 : Nat) : Int)) = l.getD (i - 1) ByteArray.empty := rfl
    have e2 : rdOf ByteArray.empty l (i : Int) = l.getD i ByteArray.empty := rfl
    rw [decide_eq_false h0, Bool.false_or, w, e1, e2, toList_L, toList_L]
    refine ev_pos (by omega) (ev_pos (by omega) (ev_pos (by omega) ?_))
    by_cases h : Op.bytesLess (L (l.getD (i - 1) ByteArray.empty)) (L (l.getD i ByteArray.empty)) = true
    · rw [h, Bool.true_and]; exact ev_pos rfl hr
    · simp only [Bool.not_eq_true] at h; rw [h]; exact ev_neg (by simp) (Ev.now _)
theorem impl_areKeys_ev (t : List ByteArray) (p : List S44) (l : List ByteArray) (hp : p.length ≤ 1048576) (hs : ∀ x ∈ p, SmallP x) (hl : l.length ≤ 1048576) : Ev (fun k => impl_areKeys.f k t p l) (keysOk p l) := by
  unfold impl_areKeys.f keysOk
  have key : ∀ d i, i + d = l.length → Ev (fun k => impl_areKeys.l0 k l l (l.length : Int) (i : Int) t p) (keysFrom p l d i) := by
    intro d
    induction d with
    | zero => intro i hi; exact Ev.step (f := fun _ => some true) (fun k => by rw [impl_areKeys.l0, if_neg (by omega)]) (Ev.now _)
    | succ d ih =>
      intro i hi
      rw [keysFrom, keyAt, Bool.and_assoc]
      have hr := ask_key (l := l) (i := i) (ih (i + 1) (by omega)) (by omega) (fun _ => rfl) hl
      have e2 : rdOf ByteArray.empty l (i : Int) = l.getD i ByteArray.empty := rfl
      refine Ev.step (fun k => by rw [impl_areKeys.l0, if_pos (by omega), if_pos (by omega), if_pos (by omega), wa1 i (by omega)]) ?_
      refine Ev.bind (impl_Find_ev t p _ hp hs) ?_
      rw [← e2]
      by_cases h : findL (rdOf ByteArray.empty l (i : Int)) p < 0
      · rw [decide_eq_false (show ¬ 0 ≤ findL (rdOf ByteArray.empty l (i : Int)) p by omega), Bool.false_and]; exact ev_pos h (Ev.now _)
      · rw [decide_eq_true (show 0 ≤ findL (rdOf ByteArray.empty l (i : Int)) p by omega), Bool.true_and]; exact ev_neg h hr
  exact key l.length 0 (by omega)
theorem spec_l04Keys_ev (t : List ByteArray) (p : List S44) (l : List ByteArray) (hp : p.length ≤ 1048576) (hs : ∀ x ∈ p, SmallP x) (hl : l.length ≤ 1048576) : Ev (fun k => spec_l04Keys.f k t p l) (keysOk p l) := by
  unfold spec_l04Keys.f keysOk
  have key : ∀ d i, i + d = l.length → Ev (fun k => spec_l04Keys.l0 k l (i : Int) t p) (keysFrom p l d i) := by
    intro d
    induction d with
    | zero => intro i hi; exact Ev.step (f := fun _ => some true) (fun k => by rw [spec_l04Keys.l0, if_neg (by omega)]) (Ev.now _)
    | succ d ih =>
      intro i hi
      rw [keysFrom, keyAt, Bool.and_assoc]
      have hr := ask_key (l := l) (i := i) (ih (i + 1) (by omega)) (by omega) (fun _ => rfl) hl
      have e2 : rdOf ByteArray.empty l (i : Int) = l.getD i ByteArray.empty := rfl
      refine Ev.step (fun k => by rw [spec_l04Keys.l0, if_pos (by omega), if_pos (show (0 : Int) ≤ (i : Int) by omega), wa1 i (by omega)]) ?_
      refine Ev.bind (spec_Find_ev t p _ hp hs) ?_
      rw [← e2]
      by_cases h : findL (rdOf ByteArray.empty l (i : Int)) p < 0
      · rw [decide_eq_false (show ¬ 0 ≤ findL (rdOf ByteArray.empty l (i : Int)) p by omega), Bool.false_and]; exact ev_pos h (Ev.now _)
      · rw [decide_eq_true (show 0 ≤ findL (rdOf ByteArray.empty l (i : Int)) p by omega), Bool.true_and]; exact ev_neg h hr
  exact key l.length 0 (by omega)
theorem ev_and {g f : Nat → Option Bool} {a r : Bool} (hg : Ev g a) (hf : Ev f r) : Ev (fun k => (g k).bind fun t => if t = true then f k else some false) (a && r) := by
  refine Ev.bind hg ?_
  cases a with
  | true => rw [Bool.true_and]; exact ev_pos rfl hf
  | false => exact ev_neg (by simp) (Ev.now _)
theorem and_last {g : Nat → Option Bool} {a : Bool} (hg : Ev g a) (n : Nat) : Ev (fun k => if (n : Int) ≤ 40 then (g k).bind fun t => some t else some false) (decide (n ≤ 40) && a) := by
  by_cases h : n ≤ 40
  · rw [decide_eq_true h, Bool.true_and]; exact ev_pos (by omega) (Ev.bind hg (Ev.now _))
  · rw [decide_eq_false h]; exact ev_neg (by omega) (Ev.now _)
theorem packAt_impl (p : List S44) (i : Nat) (a b : Bool) : ((packAt p i && a) && b) = (packOk (p.getD i z44) && ((decide (i = 0) || Op.bytesLess (L (keyOf (p.getD (i - 1) z44))) (L (keyOf (p.getD i z44)))) && (keysOk p (p.getD i z44).f5 && (a && b)))) := by
  unfold packAt
  cases packOk (p.getD i z44) <;> cases keysOk p (p.getD i z44).f5 <;> cases (decide (i = 0) || Op.bytesLess (L (keyOf (p.getD (i - 1) z44))) (L (keyOf (p.getD i z44)))) <;> rfl
theorem packAt_spec (p : List S44) (i : Nat) (a b : Bool) : ((packAt p i && a) && b) = (packOk (p.getD i z44) && (keysOk p (p.getD i z44).f5 && ((decide (i = 0) || Op.bytesLess (L (keyOf (p.getD (i - 1) z44))) (L (keyOf (p.getD i z44)))) && (a && b)))) := by
  unfold packAt
  cases packOk (p.getD i z44) <;> cases keysOk p (p.getD i z44).f5 <;> cases (decide (i = 0) || Op.bytesLess (L (keyOf (p.getD (i - 1) z44))) (L (keyOf (p.getD i z44)))) <;> rfl
theorem impl_GraphOk_ev (t : List ByteArray) (p : List S44) (hp : p.length ≤ 1048576) (hs : ∀ x ∈ p, SmallP x) (ht : t.length ≤ 1048576) : Ev (fun k => impl_GraphOk.f k t p) (graphOk t p) := by
  unfold impl_GraphOk.f graphOk
  have key : ∀ d i, i + d = p.length → Ev (fun k => impl_GraphOk.l0 k p (p.length : Int) (i : Int) t p) (packsFrom p d i && (decide (p.length ≤ 40) && keysOk p t)) := by
    intro d
    induction d with
    | zero =>
      intro i hi
      rw [packsFrom, Bool.true_and]
      exact Ev.step (fun k => by rw [impl_GraphOk.l0, if_neg (by omega)]) (and_last (impl_areKeys_ev t p t hp hs ht) p.length)
    | succ d ih =>
      intro i hi
      have hm := hs _ (getD_mem p i z44 (by omega))
      have e2 : rd_T44 p (i : Int) = p.getD i z44 := rfl
      rw [packsFrom, packAt_impl]
      have tail := ev_and (impl_areKeys_ev t p _ hp hs hm.2.1.2) (ih (i + 1) (by omega))
      refine Ev.step (fun k => by rw [impl_GraphOk.l0, if_pos (by omega), if_pos (by omega), if_pos (by omega), wa1 i (by omega), e2]) ?_
      refine ev_and (impl_packOk _ hm) ?_
      by_cases h0 : i = 0
      · rw [decide_eq_true h0, Bool.true_or, Bool.true_and]; exact ev_neg (by omega) tail
      · have w : wrap64 ((i : Int) - 1) = ((i - 1 : Nat) : Int) := by rw [w64 (by omega) (by omega)]; omega
        have e1 : rd_T44 p (((i - 1 : Nat) : Int)) = p.getD (i - 1) z44 := rfl
        have hm1 := hs _ (getD_mem p (i - 1) z44 (by omega))
        rw [decide_eq_false h0, Bool.false_or, w, e1, key_impl _ hm, key_impl _ hm1]
        simp only [Option.bind_some, toList_L]
        refine ev_pos (by omega) (ev_pos (by omega) (ev_pos (by omega) ?_))
        by_cases h : Op.bytesLess (L (keyOf (p.getD (i - 1) z44))) (L (keyOf (p.getD i z44))) = true
        · rw [h, Bool.true_and]; exact ev_pos rfl tail
        · simp only [Bool.not_eq_true] at h; rw [h]; exact ev_neg (by simp) (Ev.now _)
  exact key p.length 0 (by omega)
theorem spec_GraphOk_ev (t : List ByteArray) (p : List S44) (hp : p.length ≤ 1048576) (hs : ∀ x ∈ p, SmallP x) (ht : t.length ≤ 1048576) : Ev (fun k => spec_GraphOk.f k t p) (graphOk t p) := by
  unfold spec_GraphOk.f graphOk
  have key : ∀ d i, i + d = p.length → Ev (fun k => spec_GraphOk.l0 k (i : Int) t p) (packsFrom p d i && (decide (p.length ≤ 40) && keysOk p t)) := by
    intro d
    induction d with
    | zero =>
      intro i hi
      rw [packsFrom, Bool.true_and]
      exact Ev.step (fun k => by rw [spec_GraphOk.l0, if_neg (by omega)]) (and_last (spec_l04Keys_ev t p t hp hs ht) p.length)
    | succ d ih =>
      intro i hi
      have hm := hs _ (getD_mem p i z44 (by omega))
      have e2 : rd_T44 p (i : Int) = p.getD i z44 := rfl
      rw [packsFrom, packAt_spec]
      refine Ev.step (fun k => by rw [spec_GraphOk.l0, if_pos (by omega), if_pos (show (0 : Int) ≤ (i : Int) by omega), wa1 i (by omega), e2]) ?_
      refine ev_and (spec_packOk _ hm) (ev_and (spec_l04Keys_ev t p _ hp hs hm.2.1.2) ?_)
      have tail := ih (i + 1) (by omega)
      by_cases h0 : i = 0
      · rw [decide_eq_true h0, Bool.true_or, Bool.true_and]; exact ev_neg (by omega) tail
      · have w : wrap64 ((i : Int) - 1) = ((i - 1 : Nat) : Int) := by rw [w64 (by omega) (by omega)]; omega
        have e1 : rd_T44 p (((i - 1 : Nat) : Int)) = p.getD (i - 1) z44 := rfl
        have hm1 := hs _ (getD_mem p (i - 1) z44 (by omega))
        rw [decide_eq_false h0, Bool.false_or, w, e1, key_spec _ hm, key_spec _ hm1]
        simp only [Option.bind_some, toList_L]
        refine ev_pos (by omega) (ev_pos (by omega) (ev_pos (by omega) ?_))
        by_cases h : Op.bytesLess (L (keyOf (p.getD (i - 1) z44))) (L (keyOf (p.getD i z44))) = true
        · rw [h, Bool.true_and]; exact ev_pos rfl tail
        · simp only [Bool.not_eq_true] at h; rw [h]; exact ev_neg (by simp) (Ev.now _)
  exact key p.length 0 (by omega)
def hexd : B := [48, 49, 50, 51, 52, 53, 54, 55, 56, 57, 97, 98, 99, 100, 101, 102]
def hexOf (c : UInt8) : B := [at_ hexd (c.toNat / 16), at_ hexd (c.toNat % 16)]
def putHex (l : B) : B := l.flatMap hexOf
theorem putHex_length (l : B) : (putHex l).length = 2 * l.length := by
  induction l with
  | nil => rfl
  | cons c l ih => simp only [putHex, List.flatMap_cons, List.length_append, List.length_cons] at ih ⊢; simp [hexOf] at ih ⊢; omega
theorem putHex_nil : putHex [] = [] := rfl
theorem putHex_cons (c : UInt8) (l : B) : putHex (c :: l) = hexOf c ++ putHex l := rfl
theorem I_hexOf (c : UInt8) (a b : Int) (ha : a = ((c.toNat / 16 : Nat) : Int)) (hb : b = ((c.toNat % 16 : Nat) : Int)) : [bt (S hexd) a, bt (S hexd) b] = I (hexOf c) := by
  subst ha; subst hb
  rw [bt_nat, bt_nat, L_S]; rfl
theorem spec_PutHex_loop (s : ByteArray) (hs : s.size ≤ 1099511627776) (d : Nat) : ∀ (i : Nat) (acc : B), i + d = (L s).length → acc.length + 2 * d ≤ 4398046511104 →
    Ev (fun k => spec_PutHex.l0 k s (I acc) (i : Int)) (S (acc ++ putHex ((L s).drop i))) := by
  induction d with
  | zero =>
    intro i acc hi ha
    have hz : ¬ ((i : Int) < (s.size : Int)) := by rw [size_L]; omega
    refine Ev.step (f := fun k => some (strOfNums (I acc))) (fun k => by rw [spec_PutHex.l0, if_neg hz]) ?_
    rw [List.drop_of_length_le (by omega), putHex_nil, List.append_nil, str_I]
    exact Ev.now _
  | succ d ih =>
    intro i acc hi ha
    have hl : i < (L s).length := by omega
    have hz : ((i : Int) < (s.size : Int)) := by rw [size_L]; omega
    have hb := byte_lt (at_ (L s) i)
    have h1 : Int.tdiv ((at_ (L s) i).toNat : Int) 16 % 256 = (((at_ (L s) i).toNat / 16 : Nat) : Int) := by
      rw [Int.tdiv_eq_ediv_of_nonneg (by omega)]; omega
    have h2 : Int.tmod ((at_ (L s) i).toNat : Int) 16 = (((at_ (L s) i).toNat % 16 : Nat) : Int) := by
      rw [Int.tmod_eq_emod_of_nonneg (by omega)]; omega
    refine Ev.step (f := fun k => spec_PutHex.l0 k s (I (acc ++ hexOf (at_ (L s) i))) ((i + 1 : Nat) : Int)) (fun k => ?_) ?_
    · rw [spec_PutHex.l0, if_pos hz, if_pos (by omega), bt_nat, h1, h2, if_pos (by omega), if_pos (by omega), if_pos (by omega), if_pos (by omega), Option.bind_some]
      rw [show (⟨#[48, 49, 50, 51, 52, 53, 54, 55, 56, 57, 97, 98, 99, 100, 101, 102]⟩ : ByteArray) = S hexd from rfl, I_hexOf _ _ _ rfl rfl, if_pos (by simp [hexOf]; omega), ← I_append, w64 (by omega) (by rw [size_L] at hs; omega)]
      rfl
    · refine ev_use (ih (i + 1) _ (by omega) (by simp [hexOf]; omega)) ?_
      rw [drop_at _ _ hl, putHex_cons, List.append_assoc]
theorem spec_PutHex_ev (s : ByteArray) (hs : s.size ≤ 1099511627776) : Ev (fun k => spec_PutHex.f k s) (S (putHex (L s))) := by
  refine ev_use (Ev.congr (fun k => rfl) (spec_PutHex_loop s hs (L s).length 0 [] (by omega) (by rw [← size_L]; simp; omega))) ?_
  simp
theorem impl_PutHex_loop (s : ByteArray) (hs : s.size ≤ 1099511627776) (d : Nat) : ∀ (i : Nat) (acc : B), i + d = (L s).length → acc.length + 2 * d ≤ 4398046511104 →
    Ev (fun k => impl_PutHex.l0 k s (I acc) (s.size : Int) (i : Int)) (S (acc ++ putHex ((L s).drop i))) := by
  induction d with
  | zero =>
    intro i acc hi ha
    have hz : ¬ ((i : Int) < (s.size : Int)) := by rw [size_L]; omega
    refine Ev.step (f := fun k => some (strOfNums (I acc))) (fun k => by rw [impl_PutHex.l0, if_neg hz]) ?_
    rw [List.drop_of_length_le (by omega), putHex_nil, List.append_nil, str_I]
    exact Ev.now _
  | succ d ih =>
    intro i acc hi ha
    have hl : i < (L s).length := by omega
    have hz : ((i : Int) < (s.size : Int)) := by rw [size_L]; omega
    have hb := byte_lt (at_ (L s) i)
    have h1 : ((at_ (L s) i).toNat : Int) / 16 = (((at_ (L s) i).toNat / 16 : Nat) : Int) := by omega
    have h2 : Go.bits .and .u8 ((at_ (L s) i).toNat : Int) 15 = (((at_ (L s) i).toNat % 16 : Nat) : Int) := by
      have e := Go.u8_and15 (x := ((at_ (L s) i).toNat : Int)) (by omega) (by omega)
      exact e.trans (by omega)
    refine Ev.step (f := fun k => impl_PutHex.l0 k s (I (acc ++ hexOf (at_ (L s) i))) (s.size : Int) ((i + 1 : Nat) : Int)) (fun k => ?_) ?_
    · rw [impl_PutHex.l0, if_pos hz, if_pos (by omega), if_pos hz, bt_nat, h1, h2, if_pos (by omega), if_pos (by omega), if_pos (by omega), if_pos (by omega), Option.bind_some]
      rw [show (⟨#[48, 49, 50, 51, 52, 53, 54, 55, 56, 57, 97, 98, 99, 100, 101, 102]⟩ : ByteArray) = S hexd from rfl, I_hexOf _ _ _ rfl rfl, if_pos (by simp [hexOf]; omega), ← I_append, w64 (by omega) (by rw [size_L] at hs; omega)]
      rfl
    · refine ev_use (ih (i + 1) _ (by omega) (by simp [hexOf]; omega)) ?_
      rw [drop_at _ _ hl, putHex_cons, List.append_assoc]
theorem impl_PutHex_ev (s : ByteArray) (hs : s.size ≤ 1099511627776) : Ev (fun k => impl_PutHex.f k s) (S (putHex (L s))) := by
  refine ev_use (Ev.congr (fun k => rfl) (impl_PutHex_loop s hs (L s).length 0 [] (by omega) (by rw [← size_L]; simp; omega))) ?_
  simp
end Go.Proofs.YteldcmniknocpaaGreatDoor.U

end
