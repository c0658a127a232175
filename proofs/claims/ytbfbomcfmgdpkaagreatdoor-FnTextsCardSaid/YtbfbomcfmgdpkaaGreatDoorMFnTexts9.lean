/- A part of the proof that the law FnTexts answers true at every input that its row speaks of. Conditions: the row's own. -/
import Derived.Test.YtbfbomcfmgdpkaaGreatDoorMFnTexts8
import Derived.Test.YtbfbomcfmgdpkaaGreatDoorKFnTexts0
import Derived.Lib.TrimByte
import Derived.Test.YtbfbomcfmgdpkaaGreatDoorKFnTexts1
import Derived.Lib.Strings
import Derived.Test.YtbfbomcfmgdpkaaGreatDoorMFnTexts7
import Derived.Test.YtbfbomcfmgdpkaaGreatDoorMFnTexts0
import Derived.Test.YtbfbomcfmgdpkaaGreatDoorRows
import Derived.Test.YtbfbomcfmgdpkaaGreatDoorOp
import Derived.Test.YtbfbomcfmgdpkaaGreatDoorCards
import Derived.Test.YtbfbomcfmgdpkaaGreatDoorTie
import Derived.Test.YtbfbomcfmgdpkaaGreatDoorLaid
import Derived.Test.YtbfbomcfmgdpkaaGreatDoorFacts
import Derived.WalkKit
import Derived.ProofKit
import Derived.OpenShut
import Derived.ShutString
import Derived.ChangeOld
import Derived.Below
import Derived.SizedLaws
import Derived.Carry
import Derived.Deep.DeepHandedRow
import Derived.Deep.DeepWitnessRowRef
section
namespace Go.Proofs.YtbfbomcfmgdpkaaGreatDoor.U
open Go Go.RowKit Go.Proofs.YtbfbomcfmgdpkaaGreatDoorW.PrintWords Go.Proofs.YtbfbomcfmgdpkaaGreatDoor.G
set_option linter.unusedVariables false
def lead (l : B) : Nat := (l.takeWhile (· == 32)).length
theorem spec_Indent_l (s : ByteArray) (hs : s.size ≤ 1048576) : ∀ d i, i + d = (L s).length → Ev (fun k => spec_Indent.l0 k s (i : Int)) ((i + lead ((L s).drop i) : Nat) : Int) := by
  rw [size_L] at hs
  intro d
  induction d with
  | zero =>
    intro i hi
    have e : i = (L s).length := by omega
    refine Ev.step (f := fun _ => some (i : Int)) (fun k => by rw [spec_Indent.l0, if_neg (by rw [size_L]; omega)]) (ev_use (Ev.now _) ?_)
    subst e; rw [List.drop_length]; rfl
  | succ d ih =>
    intro i hi
    have h : i < (L s).length := by omega
    rw [drop_at (L s) i h]
    by_cases hc : at_ (L s) i = 32
    · refine Ev.step (f := fun k => spec_Indent.l0 k s ((i + 1 : Nat) : Int)) (fun k => by rw [spec_Indent.l0, if_pos (by rw [size_L]; omega), if_pos (by omega), bt_nat, if_pos (by rw [hc]; rfl), wa1 i (by omega)]) ?_
      refine ev_use (ih (i + 1) (by omega)) ?_
      rw [hc]; unfold lead; rw [List.takeWhile_cons]; simp; omega
    · have hb : ¬ ((at_ (L s) i).toNat : Int) = 32 := fun e => hc ((byte_is _ 32 32 rfl).1 e)
      refine Ev.step (f := fun _ => some (i : Int)) (fun k => by rw [spec_Indent.l0, if_pos (by rw [size_L]; omega), if_pos (by omega), bt_nat, if_neg hb]) (ev_use (Ev.now _) ?_)
      unfold lead; rw [List.takeWhile_cons]; simp [hc]
theorem spec_Indent_ev (s : ByteArray) (hs : s.size ≤ 1048576) : Ev (fun k => spec_Indent.f k s) (lead (L s) : Int) := by
  have := spec_Indent_l s hs (L s).length 0 (by omega)
  unfold spec_Indent.f
  simpa using this
theorem impl_Indent_eq (s : ByteArray) (hs : s.size ≤ 1048576) : impl_Indent.f s = some (lead (L s) : Int) := by
  have h1 : (lead (L s)) + ((L s).dropWhile (· == 32)).length = (L s).length := by
    unfold lead; rw [← List.length_append, List.takeWhile_append_dropWhile]
  have h2 : strings_TrimLeft.f s ⟨#[32]⟩ = some (S ((L s).dropWhile (· == 32))) := by
    unfold strings_TrimLeft.f Lib.trimLeftB
    rw [dif_pos (show (⟨#[32]⟩ : ByteArray).size = 1 from rfl), if_pos ⟨by decide, by omega⟩]
    rfl
  unfold impl_Indent.f
  rw [h2, Option.bind_some, size_S, size_L]
  rw [size_L] at hs
  rw [w64 (by omega) (by omega)]
  congr 1; omega
end Go.Proofs.YtbfbomcfmgdpkaaGreatDoor.U

end
section
namespace Go.Proofs.YtbfbomcfmgdpkaaGreatDoor.U
open Go Go.RowKit Go.Proofs.YtbfbomcfmgdpkaaGreatDoorW.PrintWords Go.Proofs.YtbfbomcfmgdpkaaGreatDoor.G
set_option linter.unusedVariables false
set_option linter.unusedSimpArgs false
theorem all_loop {α : Type} (l : List α) (z : α) (p : α → Bool) (last : Bool) (g : Nat → Int → Option Bool) (hend : Ev (fun k => g k (l.length : Int)) last)
    (hstep : ∀ (i : Nat) (r : Bool), i < l.length → Ev (fun k => g k ((i + 1 : Nat) : Int)) r → Ev (fun k => g k (i : Int)) (p (l.getD i z) && r)) : Ev (fun k => g k 0) (l.all p && last) := by
  have key : ∀ d i, i + d = l.length → Ev (fun k => g k (i : Int)) ((l.drop i).all p && last) := by
    intro d
    induction d with
    | zero =>
      intro i hi
      have e : i = l.length := by omega
      subst e
      rw [List.drop_length]; exact hend
    | succ d ih =>
      intro i hi
      rw [drop_getD l i z (by omega), List.all_cons, Bool.and_assoc]
      exact hstep i _ (by omega) (ih (i + 1) (by omega))
  have := key l.length 0 (by omega)
  exact this
theorem getD_at (l : B) (i : Nat) : l.getD i 0 = at_ l i := rfl
abbrev nm12 : B := [110, 111, 100, 101, 95, 109, 111, 100, 117, 108, 101, 115]
def nc (c : UInt8) : Bool := decide (97 ≤ c.toNat ∧ c.toNat ≤ 122) || dgt c || c == 46 || c == 95 || c == 45
def noAt (l : B) : B := if l.head? = some 64 then l.drop 1 else l
def partOk (p : B) : Bool := !(p == nm12) && (p.all nc && (p != []))
def headOk (p : B) : Bool := !(p == nm12) && ((noAt p).all nc && (noAt p != []))
def partsOk : List B → Bool
  | [] => true
  | p :: r => headOk p && r.all partOk
def nameOk (l : B) : Bool := partsOk (cutP 47 [] l) && decide (l.length ≤ 60)
theorem cutP_pre (c : UInt8) : ∀ (l p q : B), cutP c (q ++ p) l = match cutP c p l with | [] => [] | x :: r => (q ++ x) :: r
  | [], p, q => rfl
  | y :: l, p, q => by
    unfold cutP
    by_cases h : y = c
    · rw [if_pos h, if_pos h]
    · rw [if_neg h, if_neg h, List.append_assoc, cutP_pre c l (p ++ [y]) q]
theorem impl_NameOk_1_eq (c : UInt8) : impl_NameOk_1.f (c.toNat : Int) = some (nc c) := by
  revert c; refine all_bytes ?_; decide +kernel
theorem spec_nc {α : Type} (c : UInt8) (x y : α) : ((spec_l01Letter.f (c.toNat : Int)).bind fun t484 => (if t484 = true then some x else (if (c.toNat : Int) = 46 then some x else (if (c.toNat : Int) = 95 then some x else (if (c.toNat : Int) = 45 then some x else some y))))) = some (if nc c = true then x else y) := by
  have ha : ∀ c : UInt8, spec_l01Letter.f (c.toNat : Int) = some (decide (97 ≤ c.toNat ∧ c.toNat ≤ 122) || decide (48 ≤ c.toNat ∧ c.toNat ≤ 57)) := by refine all_bytes ?_; decide +kernel
  have hb : ∀ c : UInt8, nc c = (decide (97 ≤ c.toNat ∧ c.toNat ≤ 122) || decide (48 ≤ c.toNat ∧ c.toNat ≤ 57) || decide ((c.toNat : Int) = 46) || decide ((c.toNat : Int) = 95) || decide ((c.toNat : Int) = 45)) := by refine all_bytes ?_; decide +kernel
  rw [ha, hb, Option.bind_some]
  cases decide (97 ≤ c.toNat ∧ c.toNat ≤ 122) || decide (48 ≤ c.toNat ∧ c.toNat ≤ 57) with
  | true => simp
  | false =>
    by_cases h1 : (c.toNat : Int) = 46
    · simp [h1]
    · by_cases h2 : (c.toNat : Int) = 95
      · simp [h1, h2]
      · by_cases h3 : (c.toNat : Int) = 45
        · simp [h1, h2, h3]
        · simp [h1, h2, h3]
theorem spec_nc2 {f g : Nat → Option Bool} (c : UInt8) (k : Nat) : ((spec_l01Letter.f (c.toNat : Int)).bind fun t484 => (if t484 = true then f k else (if (c.toNat : Int) = 46 then f k else (if (c.toNat : Int) = 95 then f k else (if (c.toNat : Int) = 45 then f k else some false))))) = if nc c = true then f k else some false := by
  have h := spec_nc c (f k) (some false)
  have e : ∀ (t : Bool), (if t = true then some (f k) else (if (c.toNat : Int) = 46 then some (f k) else (if (c.toNat : Int) = 95 then some (f k) else (if (c.toNat : Int) = 45 then some (f k) else some (some false))))) = some (if t = true then f k else (if (c.toNat : Int) = 46 then f k else (if (c.toNat : Int) = 95 then f k else (if (c.toNat : Int) = 45 then f k else some false)))) := by
    intro t
    repeat' split
    all_goals rfl
  cases hl : spec_l01Letter.f (c.toNat : Int) with
  | none => rw [hl] at h; cases h
  | some t =>
    rw [hl, Option.bind_some, e] at h
    rw [Option.bind_some, Option.some.inj h]
theorem impl_all_nc (s : ByteArray) (hs : s.size ≤ 1099511627776) : Ev (fun k => impl_all__impl_NameOk_1.f k s) ((L s).all nc) := by
  have hsz := size_L s
  rw [← Bool.and_true ((L s).all nc)]
  refine all_loop (L s) 0 nc true (fun k i => impl_all__impl_NameOk_1.l0 k s (s.size : Int) i) ?_ ?_
  · exact Ev.step (f := fun k => some true) (fun k => by show impl_all__impl_NameOk_1.l0 (k + 1) s _ _ = _; rw [impl_all__impl_NameOk_1.l0, if_neg (by omega)]) (Ev.now _)
  · intro i r hi hr
    rw [getD_at]
    have hb : bt s (i : Int) = ((at_ (L s) i).toNat : Int) := bt_nat s i
    by_cases h : nc (at_ (L s) i) = true
    · rw [h, Bool.true_and]
      refine Ev.step (fun k => ?_) hr
      show impl_all__impl_NameOk_1.l0 (k + 1) s _ _ = _
      rw [impl_all__impl_NameOk_1.l0, if_pos (by omega), if_pos (by omega), if_pos (by omega), hb, impl_NameOk_1_eq, Option.bind_some, if_pos h, wa1 i (by omega)]
    · refine Ev.step (f := fun k => some false) (fun k => ?_) (by simp only [Bool.not_eq_true] at h; rw [h]; exact Ev.now _)
      show impl_all__impl_NameOk_1.l0 (k + 1) s _ _ = _
      rw [impl_all__impl_NameOk_1.l0, if_pos (by omega), if_pos (by omega), if_pos (by omega), hb, impl_NameOk_1_eq, Option.bind_some, if_neg h]
theorem spec_name_l1 (s : ByteArray) (q : List ByteArray) (i : Nat) (hi : i < q.length) (hq : q.length ≤ 1048577) (p : ByteArray) (hp : p.size ≤ 1048577) {r : Bool} (hr : Ev (fun k => spec_NameOk.l0 k s q ((i + 1 : Nat) : Int)) r) :
    Ev (fun k => spec_NameOk.l1 k s q (i : Int) p 0) ((L p).all nc && ((L p != []) && r)) := by
  have hsz := size_L p
  refine all_loop (L p) 0 nc _ (fun k j => spec_NameOk.l1 k s q (i : Int) p j) ?_ ?_
  · refine Ev.step (f := fun k => if p.toList = ([] : List UInt8) then some false else spec_NameOk.l0 k s q ((i + 1 : Nat) : Int)) (fun k => ?_) ?_
    · show spec_NameOk.l1 (k + 1) s q _ p _ = _
      rw [spec_NameOk.l1, if_neg (by omega), wa1 i (by omega)]
    · rw [toList_L]
      by_cases h : L p = []
      · have : (L p != ([] : B)) = false := by rw [h]; rfl
        rw [this, Bool.false_and]; exact ev_pos h (Ev.now _)
      · rw [bne_iff_ne.2 h, Bool.true_and]; exact ev_neg h hr
  · intro j r hj hr
    rw [getD_at]
    have hb : bt p (j : Int) = ((at_ (L p) j).toNat : Int) := bt_nat p j
    have e := fun k => spec_nc2 (f := fun k => spec_NameOk.l1 k s q (i : Int) p ((j + 1 : Nat) : Int)) (g := fun _ => none) (at_ (L p) j) k
    refine Ev.step (f := fun k => if nc (at_ (L p) j) = true then spec_NameOk.l1 k s q (i : Int) p ((j + 1 : Nat) : Int) else some false) (fun k => ?_) ?_
    · show spec_NameOk.l1 (k + 1) s q _ p _ = _
      rw [spec_NameOk.l1, if_pos (by omega), if_pos (by omega), hb, wa1 j (by omega)]
      exact e k
    · by_cases h : nc (at_ (L p) j) = true
      · rw [h, Bool.true_and]; exact ev_pos rfl hr
      · simp only [Bool.not_eq_true] at h; rw [h]; exact ev_neg (by simp) (Ev.now _)
theorem rd_S (q : List B) (i : Nat) : rdOf ByteArray.empty (q.map S) (i : Int) = S (q.getD i []) := by
  show (q.map S).getD i ByteArray.empty = _
  rw [List.getD_eq_getElem?_getD, List.getD_eq_getElem?_getD, List.getElem?_map]
  cases q[i]? <;> rfl
theorem spec_name_l0 (s : ByteArray) (q : List B) (hq : q.length ≤ 1048577) (hm : ∀ x ∈ q, x.length ≤ 1048576) : ∀ d i, i + d = q.length → Ev (fun k => spec_NameOk.l0 k s (q.map S) (i : Int)) ((if i = 0 then partsOk q else (q.drop i).all partOk) && decide (s.size ≤ 60)) := by
  intro d
  induction d with
  | zero =>
    intro i hi
    refine Ev.step (f := fun _ => some (decide ((s.size : Int) ≤ 60))) (fun k => by rw [spec_NameOk.l0, if_neg (by rw [List.length_map]; omega)]) (ev_use (Ev.now _) ?_)
    have e1 : decide ((s.size : Int) ≤ 60) = decide (s.size ≤ 60) := by
      by_cases h : s.size ≤ 60
      · rw [decide_eq_true h, decide_eq_true (by omega)]
      · rw [decide_eq_false h, decide_eq_false (by omega)]
    rw [e1, List.drop_of_length_le (by omega)]
    by_cases h0 : i = 0
    · have : q = [] := List.eq_nil_of_length_eq_zero (by omega)
      rw [if_pos h0, this]; rfl
    · rw [if_neg h0]; rfl
  | succ d ih =>
    intro i hi
    have hlt : i < q.length := by omega
    have hmem : q.getD i [] ∈ q := by rw [List.getD_eq_getElem?_getD, List.getElem?_eq_getElem hlt]; exact List.getElem_mem hlt
    have hml := hm _ hmem
    have hn := ih (i + 1) (by omega)
    rw [if_neg (by omega)] at hn
    have hlm : i < (q.map S).length := by rw [List.length_map]; exact hlt
    have en : (⟨#[]⟩ : ByteArray) = ByteArray.empty := rfl
    by_cases hx : q.getD i [] = nm12
    · refine ev_use (Ev.step (f := fun _ => some false) (fun k => ?_) (Ev.now _)) ?_
      · rw [spec_NameOk.l0, if_pos (by omega), if_pos (by omega), rd_S, toList_S, if_pos hx]
      · by_cases h0 : i = 0
        · rw [if_pos h0]
          cases q with
          | nil => simp at hlt
          | cons x r =>
            subst h0
            have hx' : x = nm12 := hx
            rw [partsOk, headOk, hx']; rfl
        · rw [if_neg h0, drop_getD q i [] hlt, List.all_cons, hx]; rfl
    · have inner : ∀ p : B, p.length ≤ 1048576 → Ev (fun k => spec_NameOk.j2 k s (q.map S) (i : Int) (S p)) (p.all nc && ((p != []) && ((q.drop (i + 1)).all partOk && decide (s.size ≤ 60)))) := fun p hp => by
        have := spec_name_l1 s (q.map S) i hlm (by rw [List.length_map]; omega) (S p) (by rw [size_S]; omega) hn
        rw [L_S] at this
        exact Ev.step (fun k => by rw [spec_NameOk.j2]) this
      have hne : (q.getD i [] == nm12) = false := beq_eq_false_iff_ne.2 hx
      by_cases h0 : i = 0
      · subst h0
        rw [if_pos rfl]
        cases q with
        | nil => simp at hlt
        | cons x r =>
          have hx' : ¬ x = nm12 := hx
          have hne' : (x == nm12) = false := hne
          have hxl : x.length ≤ 1048576 := hml
          have e0 : ((x :: r).getD 0 []) = x := rfl
          rw [partsOk, headOk, hne', Bool.not_false, Bool.true_and]
          have flag : ∀ b : Bool, b = decide (x.head? = some 64) → Ev (fun k => spec_NameOk.j1 k s ((x :: r).map S) 0 (S x) b) (((noAt x).all nc && (noAt x != [])) && r.all partOk && decide (s.size ≤ 60)) := by
            intro b hb
            by_cases hat : x.head? = some 64
            · rw [decide_eq_true hat] at hb
              subst hb
              have en : noAt x = x.drop 1 := if_pos hat
              have hx1 : 1 ≤ x.length := by cases x with
                | nil => simp at hat
                | cons y l => simp
              have eS : (S x).extract 1 (S x).size = S (x.drop 1) := by
                apply L_inj; rw [L_extract, L_S, L_S, size_S, List.take_of_length_le (by rw [List.length_drop]; omega)]
              rw [en]
              refine ev_use (Ev.step (f := fun k => spec_NameOk.j2 k s ((x :: r).map S) 0 (S (x.drop 1))) (fun k => ?_) (inner (x.drop 1) (by rw [List.length_drop]; omega))) ?_
              · rw [spec_NameOk.j1, if_pos rfl, if_pos (by rw [size_S]; omega), eS]
              · show _ = _
                rw [Bool.and_assoc, Bool.and_assoc]; rfl
            · rw [decide_eq_false hat] at hb
              subst hb
              have en : noAt x = x := if_neg hat
              rw [en]
              refine ev_use (Ev.step (f := fun k => spec_NameOk.j2 k s ((x :: r).map S) 0 (S x)) (fun k => ?_) (inner x hxl)) ?_
              · rw [spec_NameOk.j1, if_neg (by decide)]
              · show _ = _
                rw [Bool.and_assoc, Bool.and_assoc]; rfl
          cases x with
          | nil =>
            refine Ev.step (fun k => ?_) (flag false rfl)
            have er : rdOf ByteArray.empty (([] :: r).map S) ((0 : Nat) : Int) = S [] := rd_S ([] :: r) 0
            rw [spec_NameOk.l0, if_pos (by omega), if_pos (by omega), er, toList_S, if_neg hx', if_pos (show ((0 : Nat) : Int) = 0 from rfl), if_neg (by rw [size_S]; simp)]; rfl
          | cons y l =>
            refine Ev.step (fun k => ?_) (flag ((y.toNat : Int) == 64) ?_)
            · have er : rdOf ByteArray.empty (((y :: l) :: r).map S) ((0 : Nat) : Int) = S (y :: l) := rd_S ((y :: l) :: r) 0
              have eb : bt (S (y :: l)) 0 = (y.toNat : Int) := by
                have := bt_nat (S (y :: l)) 0; rw [L_S] at this; exact this
              rw [spec_NameOk.l0, if_pos (by omega), if_pos (by omega), er, toList_S, if_neg hx', if_pos (show ((0 : Nat) : Int) = 0 from rfl), if_pos (by rw [size_S, List.length_cons]; omega), if_pos (by rw [size_S, List.length_cons]; omega), eb]; rfl
            · by_cases h : y = 64
              · subst h; rfl
              · have h1 : ¬ (y.toNat : Int) = 64 := fun e => h (byte_inj (d := 64) e)
                rw [beq_eq_false_iff_ne.2 h1, decide_eq_false]
                intro e; exact h (Option.some.inj e)
      · rw [if_neg h0, drop_getD q i [] hlt, List.all_cons, partOk, hne, Bool.not_false, Bool.true_and]
        refine ev_use (Ev.step (f := fun k => spec_NameOk.j1 k s (q.map S) (i : Int) (S (q.getD i [])) false) (fun k => ?_) (Ev.step (f := fun k => spec_NameOk.j2 k s (q.map S) (i : Int) (S (q.getD i []))) (fun k => ?_) (inner _ hml))) ?_
        · rw [spec_NameOk.l0, if_pos (by omega), if_pos (by omega), rd_S, toList_S, if_neg hx, if_neg (by omega)]
        · rw [spec_NameOk.j1, if_neg (by decide)]
        · rw [Bool.and_assoc, Bool.and_assoc]
theorem parts_len (l : B) (hl : l.length ≤ 1048576) : (cutP 47 [] l).length ≤ 1048577 ∧ ∀ x ∈ cutP 47 [] l, x.length ≤ 1048576 := by
  refine ⟨by have := (cutP_len 47 l []).2; omega, fun x hx => ?_⟩
  have key : ∀ (l p : B), x ∈ cutP 47 p l → x.length ≤ p.length + l.length := by
    intro l
    induction l with
    | nil => intro p h; simp only [cutP, List.mem_singleton] at h; subst h; simp
    | cons y l ih =>
      intro p h
      unfold cutP at h
      by_cases hy : y = 47
      · rw [if_pos hy, List.mem_cons] at h
        rcases h with rfl | h
        · omega
        · have := ih [] h; simp at *; omega
      · rw [if_neg hy] at h
        have := ih _ h; simp at *; omega
  have := key l [] hx
  simp at this; omega
theorem spec_NameOk_ev (s : ByteArray) (hs : s.size ≤ 1048576) : Ev (fun k => spec_NameOk.f k s) (nameOk (L s)) := by
  have hl := size_L s
  have hp := parts_len (L s) (by omega)
  unfold spec_NameOk.f nameOk
  refine Ev.bind (spec_l01Cut_ev s 47 (by omega)) ?_
  have := spec_name_l0 s (cutP 47 [] (L s)) hp.1 hp.2 _ 0 (Nat.zero_add _)
  rw [if_pos rfl, hl] at this
  exact this
def partsI (at0 : Bool) : List B → Bool
  | [] => true
  | p :: r => ((p != []) && ((at0 || !(p == nm12)) && p.all nc)) && r.all partOk
theorem impl_name_l0 (s : ByteArray) (at0 : Bool) (q : List B) (hq : q.length ≤ 1048577) (hm : ∀ x ∈ q, x.length ≤ 1048576) : ∀ d i, i + d = q.length → Ev (fun k => impl_NameOk.l0 k s at0 (q.map S) ((q.map S).length : Int) (i : Int)) ((if i = 0 then partsI at0 q else (q.drop i).all partOk) && decide (s.size ≤ 60)) := by
  intro d
  induction d with
  | zero =>
    intro i hi
    refine Ev.step (f := fun _ => some (decide ((s.size : Int) ≤ 60))) (fun k => by rw [impl_NameOk.l0, if_neg (by rw [List.length_map]; omega)]) (ev_use (Ev.now _) ?_)
    have e1 : decide ((s.size : Int) ≤ 60) = decide (s.size ≤ 60) := by
      by_cases h : s.size ≤ 60
      · rw [decide_eq_true h, decide_eq_true (by omega)]
      · rw [decide_eq_false h, decide_eq_false (by omega)]
    rw [e1, List.drop_of_length_le (by omega)]
    by_cases h0 : i = 0
    · have : q = [] := List.eq_nil_of_length_eq_zero (by omega)
      rw [if_pos h0, this]; rfl
    · rw [if_neg h0]; rfl
  | succ d ih =>
    intro i hi
    have hlt : i < q.length := by omega
    have hmem : q.getD i [] ∈ q := by rw [List.getD_eq_getElem?_getD, List.getElem?_eq_getElem hlt]; exact List.getElem_mem hlt
    have hml := hm _ hmem
    have hn := ih (i + 1) (by omega)
    rw [if_neg (by omega)] at hn
    have hlm : (i : Int) < ((q.map S).length : Int) := by rw [List.length_map]; omega
    have goal : ∀ g : Bool, (g = true → i = 0 ∧ at0 = true) → (i = 0 ∧ at0 = true → g = true) → Ev (fun k => impl_NameOk.l0 k s at0 (q.map S) ((q.map S).length : Int) (i : Int)) (((q.getD i [] != []) && ((g || !(q.getD i [] == nm12)) && (q.getD i []).all nc)) && ((q.drop (i + 1)).all partOk && decide (s.size ≤ 60))) := by
      intro g hg1 hg2
      generalize hx : q.getD i [] = x at hml
      have ha := impl_all_nc (S x) (by rw [size_S]; omega)
      rw [L_S] at ha
      have rest : Ev (fun k => (impl_all__impl_NameOk_1.f k (S x)).bind fun t => if t = true then impl_NameOk.l0 k s at0 (q.map S) ((q.map S).length : Int) ((i + 1 : Nat) : Int) else some false) (x.all nc && ((q.drop (i + 1)).all partOk && decide (s.size ≤ 60))) := by
        refine Ev.bind ha ?_
        by_cases h : x.all nc = true
        · rw [h, Bool.true_and]; exact ev_pos rfl hn
        · simp only [Bool.not_eq_true] at h; rw [h]; exact ev_neg (by simp) (Ev.now _)
      have er : rdOf ByteArray.empty (q.map S) (i : Int) = S x := by rw [rd_S, hx]
      refine Ev.step (f := fun k => if x = ([] : B) then some false else if x = nm12 then (if at0 = true then (if (i : Int) = 0 then ((impl_all__impl_NameOk_1.f k (S x)).bind fun t => if t = true then impl_NameOk.l0 k s at0 (q.map S) ((q.map S).length : Int) ((i + 1 : Nat) : Int) else some false) else some false) else some false) else ((impl_all__impl_NameOk_1.f k (S x)).bind fun t => if t = true then impl_NameOk.l0 k s at0 (q.map S) ((q.map S).length : Int) ((i + 1 : Nat) : Int) else some false)) (fun k => ?_) ?_
      · rw [impl_NameOk.l0, if_pos hlm, if_pos (by omega), if_pos hlm, er, toList_S, wa1 i (by omega)]
      · by_cases h1 : x = []
        · have : (x != ([] : B)) = false := by rw [h1]; rfl
          rw [this]; exact ev_pos h1 (Ev.now _)
        · rw [bne_iff_ne.2 h1, Bool.true_and]
          refine ev_neg h1 ?_
          by_cases h2 : x = nm12
          · have e2 : (x == nm12) = true := beq_iff_eq.2 h2
            rw [e2]
            refine ev_pos h2 ?_
            by_cases h3 : at0 = true
            · refine ev_pos h3 ?_
              by_cases h4 : i = 0
              · rw [hg2 ⟨h4, h3⟩, Bool.true_or, Bool.true_and]; exact ev_pos (by omega) rest
              · have : g = false := by simpa using fun e => h4 (hg1 e).1
                rw [this]; exact ev_neg (by omega) (Ev.now _)
            · have : g = false := by simpa using fun e => h3 (hg1 e).2
              rw [this]; exact ev_neg h3 (Ev.now _)
          · have e2 : (x == nm12) = false := beq_eq_false_iff_ne.2 h2
            rw [e2, Bool.not_false, Bool.or_true, Bool.true_and]
            exact ev_neg h2 rest
    by_cases h0 : i = 0
    · subst h0
      rw [if_pos rfl]
      have := goal at0 (fun h => ⟨rfl, h⟩) (fun h => h.2)
      cases q with
      | nil => simp at hlt
      | cons x r => exact ev_use this (Bool.and_assoc _ _ _).symm
    · rw [if_neg h0, drop_getD q i [] hlt, List.all_cons]
      have ep : partOk (q.getD i []) = ((q.getD i [] != []) && ((false || !(q.getD i [] == nm12)) && (q.getD i []).all nc)) := by
        unfold partOk
        cases (q.getD i [] == nm12) <;> cases (q.getD i []).all nc <;> cases (q.getD i [] != []) <;> rfl
      rw [ep]
      exact ev_use (goal false (fun h => by cases h) (fun h => absurd h.1 h0)) (Bool.and_assoc _ _ _).symm
theorem noAt_eq (l : B) : noAt l = Lib.trimPrefix l [64] := by
  unfold noAt Lib.trimPrefix Lib.hasPrefix
  cases l with
  | nil => rfl
  | cons y r =>
    by_cases h : y = 64
    · subst h; rfl
    · have e : ((64 : UInt8) == y) = false := beq_eq_false_iff_ne.2 fun e => h e.symm
      simp [List.isPrefixOf, e, h]
theorem at_eq0 (l : B) : decide (l.head? = some 64) = Lib.hasPrefix l [64] := by
  unfold Lib.hasPrefix
  cases l with
  | nil => rfl
  | cons y r =>
    by_cases h : y = 64
    · subst h; simp [List.isPrefixOf]
    · have e : ((64 : UInt8) == y) = false := beq_eq_false_iff_ne.2 fun e => h e.symm
      simp [List.isPrefixOf, e, h]
theorem parts_at (l : B) : partsOk (cutP 47 [] l) = partsI (decide (l.head? = some 64)) (cutP 47 [] (noAt l)) := by
  have plain : ∀ x r, noAt x = x → partsOk (x :: r) = (((x != []) && ((!(x == nm12)) && x.all nc)) && r.all partOk) := by
    intro x r e
    rw [partsOk, headOk, e]
    congr 1
    cases (x == nm12) <;> cases x.all nc <;> cases (x != []) <;> rfl
  have hc := (cutP_len 47 (noAt l) []).1
  by_cases h : l.head? = some 64
  · cases l with
    | nil => simp at h
    | cons y r =>
      have hy : y = 64 := Option.some.inj h
      subst hy
      have en : noAt (64 :: r) = r := if_pos rfl
      rw [en] at hc ⊢
      have e1 : cutP 47 [] (64 :: r) = cutP 47 ([64] ++ []) r := by
        rw [cutP, if_neg (by decide)]; rfl
      rw [e1, cutP_pre]
      cases hq : cutP 47 [] r with
      | nil => rw [hq] at hc; simp at hc
      | cons x xs =>
        have e2 : noAt ([64] ++ x) = x := if_pos rfl
        have e3 : (([64] ++ x : B) == nm12) = false := beq_eq_false_iff_ne.2 fun e => by
          have := congrArg List.head? e
          simp [nm12] at this
        show partsOk (([64] ++ x) :: xs) = _
        rw [partsOk, headOk, e2, e3, decide_eq_true h]
        show _ = (((x != []) && (true && x.all nc)) && xs.all partOk)
        congr 1
        cases x.all nc <;> cases (x != []) <;> rfl
  · have en : noAt l = l := if_neg h
    rw [en, decide_eq_false h]
    cases hq : cutP 47 [] l with
    | nil => rfl
    | cons x xs =>
      have e2 : noAt x = x := by
        refine if_neg fun e => h ?_
        cases l with
        | nil => rw [cutP] at hq; cases hq; exact e
        | cons y r =>
          rw [cutP] at hq
          by_cases hy : y = 47
          · rw [if_pos hy] at hq; cases hq; simp at e
          · rw [if_neg hy] at hq
            have := cutP_pre 47 r [] [y]
            rw [List.append_nil] at this
            have hq' : cutP 47 [y] r = x :: xs := hq
            rw [this] at hq'
            cases hz : cutP 47 [] r with
            | nil => rw [hz] at hq'; cases hq'
            | cons z zs =>
              rw [hz] at hq'
              have ez : [y] ++ z = x := (List.cons.inj hq').1
              rw [← ez] at e
              simpa using e
      rw [plain x xs e2]; rfl
theorem impl_NameOk_ev (s : ByteArray) (hs : s.size ≤ 1048576) : Ev (fun k => impl_NameOk.f k s) (nameOk (L s)) := by
  have hl := size_L s
  have hn : (noAt (L s)).length ≤ 1048576 := by
    unfold noAt; split
    · rw [List.length_drop]; omega
    · omega
  have hp := parts_len (noAt (L s)) hn
  unfold impl_NameOk.f nameOk
  have e1 : strings_HasPrefix.f s (⟨#[64]⟩ : ByteArray) = some (decide ((L s).head? = some 64)) := by rw [at_eq0]; rfl
  have e2 : strings_TrimPrefix.f s (⟨#[64]⟩ : ByteArray) = some (S (noAt (L s))) := by rw [noAt_eq]; rfl
  have e3 := split_one (S (noAt (L s))) 47 (by rw [size_S]; omega)
  rw [L_S] at e3
  refine ev_const e1 (ev_const e2 (ev_const e3 ?_))
  have := impl_name_l0 s (decide ((L s).head? = some 64)) (cutP 47 [] (noAt (L s))) hp.1 hp.2 _ 0 (Nat.zero_add _)
  rw [if_pos rfl, ← parts_at, hl] at this
  exact this
def plain1 (c : UInt8) : Bool := decide (33 ≤ c.toNat) && decide (c.toNat ≤ 126) && c != 34 && c != 39 && c != 44 && c != 92
def plainOk (l : B) : Bool := decide (l.length ≤ 100) && l.all plain1
theorem impl_PlainOk_1_eq (c : UInt8) : impl_PlainOk_1.f (c.toNat : Int) = some (plain1 c) := by
  revert c
  refine all_bytes ?_
  decide +kernel
theorem impl_all_plain (s : ByteArray) (hs : s.size ≤ 1099511627776) : Ev (fun k => impl_all__impl_PlainOk_1.f k s) ((L s).all plain1) := by
  refine ev_use (loop_up (fun k i (_ : Unit) => impl_all__impl_PlainOk_1.l0 k s (s.size : Int) i) (L s).length (fun _ _ => True) (fun i _ => ((L s).drop i).all plain1) ?_ ?_ 0 () (by omega) trivial) (by simp)
  · intro st _
    refine Ev.step (f := fun k => some true) (fun k => by rw [impl_all__impl_PlainOk_1.l0, if_neg (by rw [size_L]; omega)]) ?_
    simpa using Ev.now true
  · intro i st hi _ ih
    have hz : (i : Int) < (s.size : Int) := by rw [size_L]; omega
    by_cases h : plain1 (at_ (L s) i) = true
    · refine Ev.step (f := fun k => impl_all__impl_PlainOk_1.l0 k s (s.size : Int) ((i + 1 : Nat) : Int)) (fun k => ?_) (ev_use (ih () trivial) ?_)
      · rw [impl_all__impl_PlainOk_1.l0, if_pos hz, if_pos (by omega), if_pos hz, bt_nat, impl_PlainOk_1_eq, Option.bind_some, if_pos h, inc i (by rw [← size_L] at hi; omega)]
      · rw [drop_at _ _ hi, List.all_cons, h, Bool.true_and]
    · refine Ev.step (f := fun k => some false) (fun k => ?_) ?_
      · rw [impl_all__impl_PlainOk_1.l0, if_pos hz, if_pos (by omega), if_pos hz, bt_nat, impl_PlainOk_1_eq, Option.bind_some, if_neg h]
      · rw [drop_at _ _ hi, List.all_cons]; simp only [Bool.not_eq_true] at h; rw [h]; exact Ev.now _
theorem impl_PlainOk_ev (s : ByteArray) (hs : s.size ≤ 1099511627776) : Ev (fun k => impl_PlainOk.f k s) (plainOk (L s)) := by
  unfold impl_PlainOk.f plainOk
  rw [← size_L]
  by_cases h : (s.size : Int) ≤ 100
  · refine ev_pos h (ev_use (Ev.bind (impl_all_plain s hs) (Ev.now _)) ?_)
    have : s.size ≤ 100 := by omega
    simp [this]
  · refine ev_neg h ?_
    have : ¬ s.size ≤ 100 := by omega
    simpa [this] using Ev.now false
theorem spec_PlainOk_ev (s : ByteArray) (hs : s.size ≤ 1099511627776) : Ev (fun k => spec_PlainOk.f k s) (plainOk (L s)) := by
  have hd : plainOk (L s) = (((L s).drop 0).all plain1 && decide (s.size ≤ 100)) := by
    unfold plainOk; rw [← size_L, Bool.and_comm]; rfl
  rw [hd]
  refine loop_up (fun k i (_ : Unit) => spec_PlainOk.l0 k s i) (L s).length (fun _ _ => True) (fun i _ => ((L s).drop i).all plain1 && decide (s.size ≤ 100)) ?_ ?_ 0 () (by omega) trivial
  · intro st _
    refine Ev.step (f := fun k => some (decide (s.size ≤ 100))) (fun k => ?_) ?_
    · rw [spec_PlainOk.l0, if_neg (by rw [size_L]; omega)]
      by_cases h : s.size ≤ 100
      · rw [if_pos (by omega), decide_eq_true h, decide_eq_true (by omega)]
      · rw [if_neg (by omega), decide_eq_false h]
    · simpa using Ev.now (decide (s.size ≤ 100))
  · intro i st hi _ ih
    have hz : (i : Int) < (s.size : Int) := by rw [size_L]; omega
    have hb := byte_lt (at_ (L s) i)
    by_cases h : plain1 (at_ (L s) i) = true
    · refine Ev.step (f := fun k => spec_PlainOk.l0 k s ((i + 1 : Nat) : Int)) (fun k => ?_) (ev_use (ih () trivial) ?_)
      · rw [spec_PlainOk.l0, if_pos hz, if_pos (by omega), bt_nat, w64 (by omega) (by omega), spec_l01In_eq, Option.bind_some, inc i (by rw [← size_L] at hi; omega)]
        revert h; generalize at_ (L s) i = c; intro h
        have e : ∀ c : UInt8, plain1 c = true → (decide ((33 : Int) ≤ (c.toNat : Int) ∧ (c.toNat : Int) ≤ 126) = true ∧ ¬ (c.toNat : Int) = 34 ∧ ¬ (c.toNat : Int) = 39 ∧ ¬ (c.toNat : Int) = 44 ∧ ¬ (c.toNat : Int) = 92) := all_bytes (by decide +kernel)
        obtain ⟨e1, e2, e3, e4, e5⟩ := e c h
        rw [if_pos e1, if_neg e2, if_neg e3, if_neg e4, if_neg e5]
      · rw [drop_at _ _ hi, List.all_cons, h, Bool.true_and]
    · refine Ev.step (f := fun k => some false) (fun k => ?_) ?_
      · rw [spec_PlainOk.l0, if_pos hz, if_pos (by omega), bt_nat, w64 (by omega) (by omega), spec_l01In_eq, Option.bind_some]
        revert h; generalize at_ (L s) i = c; intro h
        have e : ∀ c : UInt8, ¬ plain1 c = true → ¬ (decide ((33 : Int) ≤ (c.toNat : Int) ∧ (c.toNat : Int) ≤ 126) = true ∧ ¬ (c.toNat : Int) = 34 ∧ ¬ (c.toNat : Int) = 39 ∧ ¬ (c.toNat : Int) = 44 ∧ ¬ (c.toNat : Int) = 92) := all_bytes (by decide +kernel)
        have e := e c h
        by_cases e1 : decide ((33 : Int) ≤ (c.toNat : Int) ∧ (c.toNat : Int) ≤ 126) = true
        · rw [if_pos e1]
          by_cases e2 : (c.toNat : Int) = 34
          · rw [if_pos e2]
          · rw [if_neg e2]
            by_cases e3 : (c.toNat : Int) = 39
            · rw [if_pos e3]
            · rw [if_neg e3]
              by_cases e4 : (c.toNat : Int) = 44
              · rw [if_pos e4]
              · rw [if_neg e4]
                by_cases e5 : (c.toNat : Int) = 92
                · rw [if_pos e5]
                · exact absurd ⟨e1, e2, e3, e4, e5⟩ e
        · rw [if_neg e1]
      · rw [drop_at _ _ hi, List.all_cons]; simp only [Bool.not_eq_true] at h; rw [h]; exact Ev.now _
theorem sameTexts_okT (l : List ByteArray) (h : l.length ≤ 1048580) : Ev (fun k => laws_sameTexts.f k l l) true := by
  unfold laws_sameTexts.f
  refine ev_pos rfl ?_
  have key : ∀ d i : Nat, i + d = l.length → Ev (fun k => laws_sameTexts.l0 k l l (i : Int)) true := by
    intro d
    induction d with
    | zero => intro i hi; exact Ev.step (f := fun _ => some true) (fun k => by rw [laws_sameTexts.l0, if_neg (by omega)]) (Ev.now _)
    | succ d ih => intro i hi; exact Ev.step (fun k => by rw [laws_sameTexts.l0, if_pos (by omega), if_pos (by omega), if_pos (by omega), if_pos rfl, wa1 i (by omega)]) (ih (i + 1) (by omega))
  exact key l.length 0 (by omega)
end Go.Proofs.YtbfbomcfmgdpkaaGreatDoor.U

end
section
namespace Go.Proofs.YtbfbomcfmgdpkaaGreatDoor.Pure
open Go Go.RowKit Go.Proofs.YtbfbomcfmgdpkaaGreatDoorW.PrintWords Go.Proofs.YtbfbomcfmgdpkaaGreatDoor.G Go.Proofs.YtbfbomcfmgdpkaaGreatDoor.U
set_option linter.unusedVariables false
set_option linter.unusedSimpArgs false
theorem texts_j2 (q p : ByteArray) (i : Int) (hq : q.size ≤ 4000) (hp : p.size ≤ 4000) : Ev (fun k => laws_FnTexts.j2 k q (S (quote (L q))) p (place (L p) i).1 false) true := by
  have hsz := size_L q
  have hql : (S (quote (L q))).size ≤ 1099511627776 := by
    have := quoteIn_length (L q)
    rw [size_S]; unfold quote
    rw [List.length_cons, List.length_append, List.length_singleton]; omega
  have hun := impl_Unquote_ev (S (quote (L q))) 0 hql
  rw [L_S, unquote_quote] at hun
  have fin : Ev (fun k => (impl_Unquote.f k (S (quote (L q))) 0).bind fun bt => (if bt.1.toList = q.toList then (some (bt.2 == ((S (quote (L q))).size : Int))) else (some false))) true := by
    refine Ev.bind hun (ev_pos (by rw [S_L]) (ev_use (Ev.now _) ?_))
    show (((quote (L q)).length : Int) == ((S (quote (L q))).size : Int)) = true
    rw [size_S]; exact beq_self_eq_true _
  refine Ev.step (fun k => by rw [laws_FnTexts.j2, if_neg (by decide)]) ?_
  by_cases h : (place (L p) i).1 > 0
  · refine ev_pos h (ev_const (impl_Lines_eq p (by omega)) (ev_neg ?_ fin))
    have h1 := place_line p i (by omega)
    have h2 := linesL_len p
    have h3 := size_L p
    rw [w64 (by omega) (by omega)]; omega
  · exact ev_neg h fin
theorem texts_l0 (q u l p : ByteArray) (i j : Int) (hq : q.size ≤ 4000) (hu : u.size ≤ 4000) (hl : l.size ≤ 4000) (hp : p.size ≤ 4000) :
    Ev (fun k => laws_FnTexts.l0 k q (S (quote (L q))) u i (unquote (L u) i).1 (unquote (L u) i).2 l (linesL l) p (place (L p) j).1 ⟨#[]⟩ 0) true := by
  have hll := size_L l
  have hlnl := linesL_len l
  have hj := linesL_is l (by omega)
  have hjl : (joinL (linesL l)).length ≤ 4001 := by
    rcases hj.1 with h | h
    · rw [h]; omega
    · rw [h, List.length_append, List.length_singleton]; omega
  have j2 := texts_j2 q p j hq hp
  have husz := size_L u
  have tail : Ev (fun k => if (unquote (L u) i).2 ≥ 0 then ((impl_Quote.f k (unquote (L u) i).1).bind fun t => (if 0 ≤ i then (if i ≤ (unquote (L u) i).2 then (if (unquote (L u) i).2 ≤ (u.size : Int) then (laws_FnTexts.j2 k q (S (quote (L q))) p (place (L p) j).1 (t.toList != (u.extract (i : Int).toNat ((unquote (L u) i).2 : Int).toNat).toList)) else (none)) else (none)) else (none))) else (laws_FnTexts.j2 k q (S (quote (L q))) p (place (L p) j).1 false)) true := by
    by_cases h : (unquote (L u) i).2 ≥ 0
    · obtain ⟨h0, h1, h2, h3⟩ := unquote_own (L u) i h
      have hx : (unquote (L u) i).1.size ≤ 1099511627776 := by
        have hq2 : ∀ t : B, t.length ≤ (quoteIn t).length := fun t => by
          induction t with
          | nil => exact Nat.le_refl _
          | cons c t ih =>
            have : 1 ≤ (quote1 c).length := by unfold quote1; split; (· simp); split; (· simp); split; (· simp); (· simp)
            show t.length + 1 ≤ (quote1 c ++ quoteIn t).length
            rw [List.length_append]; omega
        have h4 := congrArg List.length h3
        have h5 := hq2 (L (unquote (L u) i).1)
        rw [List.length_take, List.length_drop] at h4
        unfold quote at h4
        rw [List.length_cons, List.length_append, List.length_singleton] at h4
        rw [size_L]; omega
      refine ev_pos h (Ev.bind (impl_Quote_ev _ hx) (ev_pos h0 (ev_pos h1 (ev_pos (by rw [husz]; exact h2) ?_))))
      have e : ((S (quote (L (unquote (L u) i).1))).toList != (u.extract i.toNat (unquote (L u) i).2.toNat).toList) = false := by
        rw [toList_S, extract_drop, h3]; simp
      rw [e]; exact j2
    · exact ev_neg h j2
  have key : ∀ d n : Nat, n + d = (linesL l).length → ∀ acc : ByteArray, L acc ++ joinL ((linesL l).drop n) = joinL (linesL l) → Ev (fun k => laws_FnTexts.l0 k q (S (quote (L q))) u i (unquote (L u) i).1 (unquote (L u) i).2 l (linesL l) p (place (L p) j).1 acc (n : Int)) true := by
    intro d
    induction d with
    | zero =>
      intro n hn acc he
      rw [List.drop_of_length_le (by omega)] at he
      have he' : L acc = joinL (linesL l) := by rw [← he]; show L acc = L acc ++ []; rw [List.append_nil]
      refine Ev.step (fun k => by rw [laws_FnTexts.l0, if_neg (by omega)]) ?_
      by_cases h1 : acc.toList = l.toList
      · exact ev_pos h1 tail
      · refine ev_neg h1 (ev_pos (by omega) (ev_pos ?_ tail))
        rcases hj.1 with h | h
        · exact absurd (by rw [toList_L, toList_L, he', h]) h1
        · rw [toList_L, toList_L, L_append, he', h]; rfl
    | succ d ih =>
      intro n hn acc he
      have hlt : n < (linesL l).length := by omega
      have es : rdOf ByteArray.empty (linesL l) (n : Int) = (linesL l).getD n ByteArray.empty := rfl
      have hdr : (linesL l).drop n = (linesL l).getD n ByteArray.empty :: (linesL l).drop (n + 1) := drop_getD (linesL l) n ByteArray.empty hlt
      rw [hdr] at he
      generalize (linesL l).getD n ByteArray.empty = x at es he
      have he2 : L acc ++ (L x ++ [10] ++ joinL ((linesL l).drop (n + 1))) = joinL (linesL l) := he
      have hlen := congrArg List.length he2
      rw [List.length_append, List.length_append, List.length_append, List.length_singleton] at hlen
      have hsa := size_L acc
      have hsx := size_L x
      have hax : (acc ++ x).size = acc.size + x.size := by rw [size_L, L_append, List.length_append, ← size_L, ← size_L]
      refine Ev.step (fun k => by rw [laws_FnTexts.l0, if_pos (by omega), if_pos (by omega), es, if_pos (by omega), if_pos (by omega), wa1 n (by omega)]) ?_
      refine ih (n + 1) (by omega) _ ?_
      rw [L_append, L_append, List.append_assoc, List.append_assoc]
      rw [← he2]
      show L acc ++ (L x ++ ([10] ++ joinL ((linesL l).drop (n + 1)))) = _
      rw [← List.append_assoc (L x)]
  have := key (linesL l).length 0 (by omega) ⟨#[]⟩ (by rw [List.drop_zero]; rfl)
  exact this
theorem FnTexts : laws_FnTexts.Pure := by
  intro code hcode
  refine Ev.rounds (r := true) ?_
  unfold laws_FnTexts.f
  refine ev_const (show laws_big.f code = some (decide ((code.length : Int) > 1048576)) from rfl) ?_
  by_cases hb : (code.length : Int) > 1048576
  · exact ev_pos (decide_eq_true hb) (Ev.now _)
  refine ev_neg (by rw [decide_eq_true_eq]; exact hb) ?_
  have hc : code.length ≤ 1048576 := by omega
  obtain ⟨q, e1, hq⟩ := drawQuote3 code hc
  obtain ⟨u, i, e2, hu⟩ := drawUnquote3 code hc
  obtain ⟨l, e3, hl⟩ := drawLines3 code hc
  obtain ⟨w, e4, hw⟩ := drawWords3 code hc
  obtain ⟨n, e5, hn⟩ := drawIndent3 code hc
  obtain ⟨d, e6, hd⟩ := drawDecText3 code hc
  obtain ⟨r, e7, hr⟩ := drawReadDec3 code hc
  obtain ⟨p, j, e8, hp⟩ := drawPlace3 code hc
  obtain ⟨a, e9, ha⟩ := drawNameOk3 code hc
  obtain ⟨b, e10, hbb⟩ := drawPlainOk3 code hc
  have hll := linesL_len l
  have hsl := size_L l
  have hww := (cutP_len 32 (L w) []).2
  have hsw := size_L w
  have s1 := sameTexts_okT (linesL l) (by omega)
  have s2 := sameTexts_okT ((cutP 32 [] (L w)).map S) (by rw [List.length_map]; omega)
  have hj : Ev (fun k => laws_FnTexts.j0 k q (S (quote (L q))) u i (unquote (L u) i).1 (unquote (L u) i).2 l (linesL l) p (place (L p) j).1 false) true :=
    Ev.step (fun k => by rw [laws_FnTexts.j0, if_neg (by decide)]) (texts_l0 q u l p i j hq hu hl hp)
  have nn : (nameOk (L a) != nameOk (L a)) = false := by simp
  have bb : (plainOk (L b) != plainOk (L b)) = false := by simp
  refine Ev.bind e1 (Ev.bind (impl_Quote_ev q (by omega)) (Ev.bind e2 (Ev.bind (impl_Unquote_ev u i (by omega)) (Ev.bind (spec_Unquote_ev u i (by omega)) (Ev.bind e3 (ev_const (impl_Lines_eq l (by omega)) (Ev.bind e4 (ev_const (impl_Words_eq w (by omega)) (Ev.bind e5 (Ev.bind e6 (Ev.bind e7 (Ev.bind e8 (ev_const (impl_Place_eq p j (by omega)) (Ev.bind (spec_Place_ev p j (by omega)) (Ev.bind e9 (Ev.bind e10 (Ev.bind (spec_Quote_ev q (by omega)) (ev_pos rfl (ev_pos rfl (ev_pos rfl ?_))))))))))))))))))))
  refine Ev.bind (spec_Lines_ev l (by omega)) (Ev.bind s1 (ev_pos rfl (Ev.bind (spec_Words_ev w (by omega)) (Ev.bind s2 (ev_pos rfl (ev_const (impl_Indent_eq n (by omega)) (Ev.bind (spec_Indent_ev n (by omega)) (ev_pos rfl ?_))))))))
  refine ev_const (impl_DecText_eq d (by omega) (by omega)) (Ev.bind (spec_DecText_ev d (by omega) (by omega)) (ev_pos rfl (ev_const (impl_ReadDec_eq r (by omega)) (Ev.bind (spec_ReadDec_ev r (by omega)) (ev_pos rfl (ev_pos rfl (ev_pos rfl ?_)))))))
  refine Ev.bind (impl_NameOk_ev a (by omega)) (Ev.bind (spec_NameOk_ev a (by omega)) (ev_neg (by rw [nn]; decide) ?_))
  refine Ev.bind (impl_PlainOk_ev b (by omega)) (Ev.bind (spec_PlainOk_ev b (by omega)) ?_)
  show Ev (fun k => laws_FnTexts.j0 k _ _ _ _ _ _ _ _ _ _ (plainOk (L b) != plainOk (L b))) true
  rw [bb]; exact hj
end Go.Proofs.YtbfbomcfmgdpkaaGreatDoor.Pure

end
section
namespace Go.Proofs.YtbfbomcfmgdpkaaGreatDoor.fnTexts
open Go.ChangeShapes Go.WideShapes Go.ChangeAt Go.RowKit Go.Proofs.YtbfbomcfmgdpkaaGreatDoor Go.Proofs.YtbfbomcfmgdpkaaGreatDoor.G Go.Proofs.YtbfbomcfmgdpkaaGreatDoorW.PrintWords
open Go.ChangeMaps (open_string shut_string)
set_option linter.unusedVariables false
set_option linter.unusedSimpArgs false
theorem own : ownKnob Tryz.prog.godebug = none := by kernel_rfl
theorem laidOut : laidOutB Tryz.prog = true := by kernel_rfl
set_option maxRecDepth 100000 in
theorem contract (H : Type) (enc : TypeId × Value → H) (W : World) (base : Nat) (args : Array Value) (ds gs : List (DataW H)) (before : List MemPlace)
    (hval : ∀ (j : Nat) t v, Tryz.f4.params[j]? = some t → args[j]? = some v → Value.okWide Tryz.prog W .any base t v)
    (hW : DataW.Whole enc Tryz.prog Tryz.f4.params.toList Rows.fnTextsSpec.vars false W args.toList ds gs before) (hFE : Glob FactE W) (hFM : Glob FactM W) (hFT : Glob FactT W) :
    Calls Tryz.prog 4 args W fun e W' => ∃ v, e = .returned v ∧ Rows.fnTextsSpec.post enc Tryz.prog Tryz.f4 false true false false W args v W' := by
  have hW' := hW
  obtain ⟨p, q, hA0, hV, rfl, hfz, hnd⟩ := hW
  have hA : DataW.TrodAll enc Tryz.prog W 0 (fun _ => true) true Tryz.f4.params.toList args.toList ds p := hA0
  rw [Tryz.params4] at hA hval
  obtain ⟨v0, vs0, d0, ds0, p0, q0, hargs, rfl, rfl, h0, r0⟩ := trodAll_cons hA
  obtain ⟨rfl, rfl, rfl⟩ := trodAll_nil r0
  obtain rfl : args = #[v0] := by cases args; simp_all
  obtain ⟨rfl, rfl⟩ := trodVars_none hV
  obtain ⟨A0, len0, c0, rfl⟩ := okWide_slice Tryz.underlying22 (hval 0 22 v0 rfl rfl)
  have k0 := h0
  have lt0 : ∀ x ∈ p0, x.block < W.heap.size := by obtain ⟨m, hm⟩ := k0; exact DataW.trod_lt m _ _ _ hm
  obtain ⟨l0, rfl, hc0, hr0, z0⟩ := Op.arg_slice (Op.opens_slice (by kernel_rfl) Tryz.underlying22 (Op.opens_int (by kernel_rfl) Tryz.underlying5)) h0
  clear hA0
  obtain ⟨k, h⟩ := Pure.FnTexts l0 z0
  refine (laws_FnTexts.calls k A0 c0 l0 true W hr0 hc0 hFE hFM hFT rfl h).mono fun e W' ⟨he, bel0⟩ => ?_
  have bel : Below W.heap.size W W' := bel0
  subst he
  exact ⟨_, rfl, _, _, _, [], _, [], hW', trodAll_mk1 (shut_bool Tryz.underlying4 _), (trodAll_cons_mk (Below.trod laidOut (by kernel_rfl) (of_decide_eq_true (by kernel_rfl)) k0 bel lt0) trodAll_mk0), rfl, bel.frame _, fun h => by cases h⟩
theorem laid_met (os : Os) : laidMet Tryz.prog Rows.fnTextsRow.laid ((Laid.world os).forCall (fun _ _ => 0) ⟨#[], #[.slice none 0 0], []⟩).memory :=
  laidMet_of_run' Laid.fuel (by kernel_rfl) (by kernel_rfl)
theorem reads (os : Os) {H : Type} (enc : TypeId × Value → H) : ∃ places, DataW.whole enc Tryz.prog ((Laid.world os).forCall (fun _ _ => 0) ⟨#[], #[.slice none 0 0], []⟩).memory Tryz.f4.params.toList Rows.fnTextsSpec.vars false (#[.slice none 0 0] : Array Value).toList 8 = some ([.nil], [], places) :=
  ⟨[], by kernel_rfl⟩
set_option maxRecDepth 100000 in
theorem lifted (os : Os) (started : os.Started) (H : Type) (enc : TypeId × Value → H) (F : Stop.Interp) :
    ReturnsInHanded {} Tryz.checked os 4 .any ((OpenSpec.ofChange Rows.fnTextsSpec).preRow enc Tryz.prog Tryz.f4 Rows.fnTextsRow.domain false Rows.fnTextsRow.laid) (((OpenSpec.ofChange Rows.fnTextsSpec).at F).post enc Tryz.prog Tryz.f4 false true false false) := by
  obtain ⟨places, hx⟩ := reads os enc
  refine returnsInHanded_of_row (C := Tryz.checked) (s := OpenSpec.ofChange Rows.fnTextsSpec) own started (by kernel_rfl) Tryz.func4
    (witness_row_atRef (enc := enc) (C := Tryz.checked) false (Laid.world os) #[.slice none 0 0] rfl (Laid.vars os _) (Laid.heap os _) (by kernel_rfl)
      (OpenSpec.preRow_of_cond 8 hx (by kernel_rfl) (fun k hk => by cases hk) (by kernel_rfl) (laid_met os))) ?_
  intro W base args ds gs before hval hW _ _ _ hL hS _
  exact contract H enc W base args ds gs before hval hW (FactE_of hS hL (fun h => h) (by repeat (first | exact List.Mem.head _ | apply List.Mem.tail)) (by repeat (first | exact List.Mem.head _ | apply List.Mem.tail))) (FactM_of hS hL) (FactT_of hS hL (fun h => h) (by repeat (first | exact List.Mem.head _ | apply List.Mem.tail)))
theorem j10 : (Rows.fnTextsRow.inPlace == Tryz.prog.inPlace 4) = true := by kernel_rfl
theorem j11 : (Rows.fnTextsRow.unfollowed == Tryz.prog.unfollowed 4) = true := by kernel_rfl
theorem j12 : (Rows.fnTextsRow.recurses == Tryz.prog.recurses 4) = true := by kernel_rfl
theorem j13 : (Rows.fnTextsRow.named == Tryz.prog.varsNamed 4) = true := by kernel_rfl
set_option maxRecDepth 100000 in
theorem closed : joinedFacts Tryz.prog 4 Tryz.f4 (OpenSpec.ofChange Rows.fnTextsSpec).bare Rows.fnTextsRow = true :=
  (Facts.and_mk (Facts.and_mk (Facts.and_mk (Facts.and_mk (Facts.and_mk (Facts.and_mk (Facts.and_mk (Facts.and_mk (Facts.and_mk (Facts.and_mk (Facts.and_mk (Facts.and_mk (Facts.and_mk (Facts.and_mk (Facts.and_mk (Facts.and_mk (Facts.and_mk (Facts.and_mk (Facts.and_mk (Facts.and_mk (Facts.and_mk (Facts.and_mk (Facts.and_mk (Facts.and_mk (Facts.and_mk (Facts.and_mk (Facts.and_mk (Facts.and_mk (Facts.and_mk (Facts.and_mk (Facts.and_mk (by kernel_rfl) Facts.laidOut) Facts.mapsRowed) (by kernel_rfl)) (by kernel_rfl)) (by kernel_rfl)) (by kernel_rfl)) (by kernel_rfl)) (by kernel_rfl)) j10) j11) j12) j13) (by kernel_rfl)) (by kernel_rfl)) (by kernel_rfl)) (by kernel_rfl)) (by kernel_rfl)) (by kernel_rfl)) (by kernel_rfl)) (by kernel_rfl)) (by kernel_rfl)) (Facts.plainKeys _ rfl)) (by kernel_rfl)) Facts.heard) Facts.mayEnter) (Facts.lifts _ rfl)) (Facts.make _ rfl)) (by kernel_rfl)) (by kernel_rfl)) (by kernel_rfl)) (by kernel_rfl))
theorem goes : false = Rows.fnTextsRow.goesBy Tryz.prog := by kernel_rfl
theorem said : Rows.FnTextsSaid :=
  OpenClaim.holds_of_cond 4 Tryz.f4 rfl rfl rfl rfl rfl rfl rfl ⟨rfl, rfl, rfl, rfl, rfl⟩ rfl rfl rfl rfl rfl (by kernel_rfl) Tryz.func4 closed
    (of_decide_eq_true (by kernel_rfl)) (by unfold Func.isWrapper; first | (rw [if_pos (by decide +kernel)]; kernel_rfl) | (rw [if_neg (by decide +kernel)]; exact ⟨rfl, rfl⟩))
    (fun os started H enc _ F => by rw [OpenClaim.pre_eq_preRow]; exact lifted os started H enc F)
theorem plain (f : FuncId) (fn : Func) (hf : Tryz.pinned.checked.prog.funcNamed "loop.example/g00445/laws.FnTexts" = some f) (hfn : Tryz.pinned.checked.prog.funcs[f]? = some fn) :
    true = Tryz.pinned.checked.prog.looks [] ∧ ∀ (j : Nat) t, fn.params[j]? = some t → Tryz.pinned.checked.prog.wantsStandIn t = false := by
  obtain rfl : f = 4 := Option.some.inj ((show Tryz.prog.funcNamed "loop.example/g00445/laws.FnTexts" = some 4 by kernel_rfl).symm.trans hf) |>.symm
  obtain rfl : fn = Tryz.f4 := (Option.some.inj (Tryz.func4.symm.trans hfn)).symm
  refine ⟨Facts.looks, fun j t ht => ?_⟩
  rw [Tryz.params4] at ht
  have hm := Array.mem_of_getElem? ht
  have hall : (#[22] : Array TypeId).all (fun t => Tryz.prog.wantsStandIn t == false) = true := by kernel_rfl
  show Tryz.prog.wantsStandIn t = false
  have h1 := Array.all_eq_true'.1 hall t hm
  exact beq_iff_eq.1 h1
theorem proved : Rows.FnTextsCardSaid :=
  Claim7.holds_tied_plain_at .later [] _ _ _ _ said (fun _ h => by cases h) (by kernel_rfl) (fun _ h => by cases h) fnTexts_row_tie rfl ⟨rfl, rfl⟩ Facts.main rfl plain goes
end Go.Proofs.YtbfbomcfmgdpkaaGreatDoor.fnTexts
namespace Go.Proofs.YtbfbomcfmgdpkaaGreatDoor
theorem fnTexts_holds : Rows.FnTextsCardSaid := fnTexts.proved
end Go.Proofs.YtbfbomcfmgdpkaaGreatDoor

end
