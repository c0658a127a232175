/- A part of the proof that the law FnPick answers true at every input that its row speaks of. Conditions: the row's own. -/
import Derived.Test.YtoidompkofomjaaGreatDoorMFnPick1
import Derived.Test.YtoidompkofomjaaGreatDoorKFnPick0
import Derived.Lib.SplitLaws
import Derived.Lib.Bytealg
import Derived.Test.YtoidompkofomjaaGreatDoorMFnPick0
import Derived.Lib.AtoiAll
import Derived.Lib.ItoaNum
import Derived.Lib.TrimByte
import Derived.Test.YtoidompkofomjaaGreatDoorKFnPick1
import Derived.Lib.Join
import Derived.Lib.IndexMore
import Derived.Sort.Statements
import Derived.Shelf.SlSortCmp.Insertion
import Derived.Lib.SlicesCompact
section
namespace Go.Proofs.YtoidompkofomjaaGreatDoor.U
open Go Go.RowKit Go.Proofs.YtoidompkofomjaaGreatDoorW.PrintWords Go.Proofs.YtoidompkofomjaaGreatDoor.G
set_option linter.unusedVariables false
def cutP (c : UInt8) : B → B → List B
  | p, [] => [p]
  | p, x :: l => if x = c then p :: cutP c [] l else cutP c (p ++ [x]) l
theorem cutP_len (c : UInt8) : ∀ l p, 1 ≤ (cutP c p l).length ∧ (cutP c p l).length ≤ l.length + 1 := by
  intro l
  induction l with
  | nil => intro p; simp [cutP]
  | cons x l ih =>
    intro p
    unfold cutP
    by_cases h : x = c
    · rw [if_pos h]; have := ih []; simp only [List.length_cons]; omega
    · rw [if_neg h]; have := ih (p ++ [x]); simp only [List.length_cons]; omega
theorem spec_l01Cut_l (s : ByteArray) (c : UInt8) (hs : s.size ≤ 1048576) : ∀ d j (a : Nat) (x5 : List ByteArray), j + d = (L s).length → a ≤ j → x5.length ≤ j →
    Ev (fun k => spec_l01Cut.l0 k s (c.toNat : Int) x5 (a : Int) (j : Int)) (x5 ++ (cutP c (((L s).take j).drop a) ((L s).drop j)).map S) := by
  rw [size_L] at hs
  intro d
  induction d with
  | zero =>
    intro j a x5 hj ha h5
    have e : j = (L s).length := by omega
    subst e
    rw [List.drop_length, List.take_length]
    refine Ev.step (f := fun _ => some (x5 ++ (cutP c ((L s).drop a) []).map S)) (fun k => ?_) (Ev.now _)
    have e1 : s.extract (((a : Nat) : Int)).toNat s.size = S ((L s).drop a) := by
      apply L_inj; rw [L_extract, L_S, Int.toNat_natCast, size_L, List.take_of_length_le (by rw [List.length_drop]; omega)]
    rw [spec_l01Cut.l0, if_neg (by rw [size_L]; omega), if_pos (by omega), if_pos (by rw [size_L]; omega), if_pos (by omega), e1]
    rfl
  | succ d ih =>
    intro j a x5 hj ha h5
    have h : j < (L s).length := by omega
    rw [drop_at (L s) j h]
    by_cases hc : at_ (L s) j = c
    · have e1 : s.extract (((a : Nat) : Int)).toNat ((j : Int)).toNat = S (((L s).take j).drop a) := by
        apply L_inj; rw [L_extract, L_S, Int.toNat_natCast, Int.toNat_natCast, List.drop_take]
      refine Ev.step (f := fun k => spec_l01Cut.l0 k s (c.toNat : Int) (x5 ++ [S (((L s).take j).drop a)]) ((j + 1 : Nat) : Int) ((j + 1 : Nat) : Int)) (fun k => ?_) ?_
      · rw [spec_l01Cut.l0, if_pos (by rw [size_L]; omega), if_pos (by omega), bt_nat, if_pos (by rw [hc]), if_pos (by omega), if_pos (by omega), if_pos (by rw [size_L]; omega), if_pos (by omega), e1, wa1 j (by omega)]
      · refine ev_use (ih (j + 1) (j + 1) _ (by omega) (Nat.le_refl _) (by rw [List.length_append]; simp; omega)) ?_
        have e2 : ((L s).take (j + 1)).drop (j + 1) = [] := List.drop_eq_nil_of_le (by rw [List.length_take]; omega)
        rw [e2]
        conv => rhs; unfold cutP
        rw [if_pos hc, List.map_cons, List.append_assoc]; rfl
    · have hb : ¬ ((at_ (L s) j).toNat : Int) = (c.toNat : Int) := fun e => hc (byte_inj e)
      refine Ev.step (f := fun k => spec_l01Cut.l0 k s (c.toNat : Int) x5 (a : Int) ((j + 1 : Nat) : Int)) (fun k => ?_) ?_
      · rw [spec_l01Cut.l0, if_pos (by rw [size_L]; omega), if_pos (by omega), bt_nat, if_neg hb, wa1 j (by omega)]
      · refine ev_use (ih (j + 1) a x5 (by omega) (by omega) (by omega)) ?_
        have e2 : ((L s).take (j + 1)).drop a = ((L s).take j).drop a ++ [at_ (L s) j] := by
          rw [take_at (L s) j h, List.drop_append_of_le_length (by rw [List.length_take]; omega)]
        rw [e2]
        conv => rhs; unfold cutP
        rw [if_neg hc]
theorem spec_l01Cut_ev (s : ByteArray) (c : UInt8) (hs : s.size ≤ 1048576) : Ev (fun k => spec_l01Cut.f k s (c.toNat : Int)) ((cutP c [] (L s)).map S) := by
  have := spec_l01Cut_l s c hs (L s).length 0 0 [] (by omega) (by omega) (by simp)
  unfold spec_l01Cut.f
  simpa using this
theorem index_free (c : UInt8) : ∀ (p l : B), c ∉ p → Lib.indexByte (p ++ c :: l) c = (p.length : Int) := by
  intro p
  induction p with
  | nil => intro l _; simp [Lib.indexByte]
  | cons x p ih =>
    intro l h
    simp only [List.mem_cons, not_or] at h
    have hx : ¬ x = c := fun e => h.1 e.symm
    have := ih l h.2
    rw [List.cons_append]
    unfold Lib.indexByte
    rw [if_neg (by simpa using hx), this, if_neg (by simp), List.length_cons]; omega
theorem splitK_cut (c : UInt8) : ∀ (l p : B), c ∉ p → Lib.splitK [c] 0 ((p ++ l).count c) (p ++ l) = cutP c p l := by
  intro l
  induction l with
  | nil =>
    intro p hp
    rw [List.append_nil, List.count_eq_zero_of_not_mem hp]; rfl
  | cons x l ih =>
    intro p hp
    unfold cutP
    by_cases h : x = c
    · subst h
      rw [if_pos rfl]
      have e : (p ++ x :: l).count x = l.count x + 1 := by rw [List.count_append, List.count_eq_zero_of_not_mem hp, List.count_cons_self]; omega
      have ei : Lib.index (p ++ x :: l) [x] = (p.length : Int) := by rw [Lib.index_one, index_free x p l hp]
      rw [e, Lib.splitK, if_neg (by rw [ei]; simp), ei, Int.toNat_natCast, List.take_left']
      · have ed : (p ++ x :: l).drop (p.length + [x].length) = l := by rw [List.drop_append]; simp
        rw [ed]; congr 1
        exact ih [] (by simp)
      · simp
    · rw [if_neg h]
      have := ih (p ++ [x]) (by simp only [List.mem_append, List.mem_singleton, not_or]; exact ⟨hp, fun e => h e.symm⟩)
      rw [List.append_assoc] at this; exact this
theorem split_one (s : ByteArray) (c : UInt8) (hs : s.size ≤ 1048576) : strings_Split.f s (S [c]) = some ((cutP c [] (L s)).map S) := by
  unfold strings_Split.f
  rw [if_pos ⟨by omega, by simp⟩]
  congr 1
  have e1 : (S [c]).data.toList = [c] := L_S [c]
  have e2 : Lib.countB s (S [c]) = (L s).count c := by
    show Lib.count s.data.toList (S [c]).data.toList = _
    rw [e1, Lib.count_one]; rfl
  have e3 := Lib.splitB_data (S [c]) 0 (Lib.countB s (S [c])) s
  rw [e1, e2] at e3
  have e4 := splitK_cut c (L s) [] (by simp)
  rw [List.nil_append] at e4
  rw [e2]
  have e5 : (Lib.splitB (S [c]) 0 ((L s).count c) s).map L = cutP c [] (L s) := e3.trans e4
  rw [← e5, List.map_map]
  have : (S ∘ L) = (id : ByteArray → ByteArray) := by funext x; exact S_L x
  rw [this, List.map_id]
end Go.Proofs.YtoidompkofomjaaGreatDoor.U

end
section
namespace Go.Proofs.YtoidompkofomjaaGreatDoor.U
open Go Go.RowKit Go.Proofs.YtoidompkofomjaaGreatDoorW.PrintWords Go.Proofs.YtoidompkofomjaaGreatDoor.G
set_option linter.unusedVariables false
set_option linter.unusedSimpArgs false
def idx (l : B) (c : UInt8) : Int := Lib.indexByte l c
theorem idx_nil (c : UInt8) : idx [] c = -1 := rfl
theorem idx_cons (b : UInt8) (l : B) (c : UInt8) : idx (b :: l) c = if b = c then 0 else if idx l c = -1 then -1 else idx l c + 1 := by
  show Lib.indexByte (b :: l) c = _
  rw [Lib.indexByte]
  by_cases h : b = c
  · simp [h]
  · simp [h]; rfl
theorem idx_ge (l : B) (c : UInt8) : -1 ≤ idx l c := Lib.indexByte_ge l c
theorem idx_lt (l : B) (c : UInt8) : idx l c < l.length := by
  induction l with
  | nil => rw [idx_nil]; simp
  | cons b l ih =>
    rw [idx_cons, List.length_cons]
    split
    · omega
    · split <;> omega
def idxFrom (l : B) (c : UInt8) (i : Nat) : Int := if idx (l.drop i) c = -1 then -1 else (i : Int) + idx (l.drop i) c
theorem idxFrom_zero (l : B) (c : UInt8) : idxFrom l c 0 = idx l c := by
  unfold idxFrom; rw [List.drop_zero]; split
  · rename_i h; rw [h]
  · simp
theorem spec_l01At_ev (s : ByteArray) (c : UInt8) (hs : s.size ≤ 1099511627776) : Ev (fun k => spec_l01At.f k s (c.toNat : Int)) (idx (L s) c) := by
  rw [← idxFrom_zero]
  refine loop_up (fun k i (_ : Unit) => spec_l01At.l0 k s (c.toNat : Int) i) (L s).length (fun _ _ => True) (fun i _ => idxFrom (L s) c i) ?_ ?_ 0 () (by omega) trivial
  · intro st _
    refine Ev.step (f := fun k => some (-1)) (fun k => by rw [spec_l01At.l0, if_neg (by rw [size_L]; omega)]) ?_
    refine ev_use (Ev.now _) ?_
    unfold idxFrom; rw [List.drop_length, idx_nil, if_pos rfl]
  · intro i st hi _ ih
    have hz : (i : Int) < (s.size : Int) := by rw [size_L]; omega
    by_cases h : at_ (L s) i = c
    · refine Ev.step (f := fun k => some (i : Int)) (fun k => ?_) (ev_use (Ev.now _) ?_)
      · rw [spec_l01At.l0, if_pos hz, if_pos (by omega), bt_nat, h, if_pos rfl]
      · unfold idxFrom; rw [drop_at _ _ hi, idx_cons, if_pos h]; simp
    · refine Ev.step (f := fun k => spec_l01At.l0 k s (c.toNat : Int) ((i + 1 : Nat) : Int)) (fun k => ?_) (ev_use (ih () trivial) ?_)
      · rw [spec_l01At.l0, if_pos hz, if_pos (by omega), bt_nat, if_neg (fun e => h (byte_inj e)), inc i (by rw [← size_L] at hi; omega)]
      · unfold idxFrom; rw [drop_at _ _ hi, idx_cons, if_neg h]
        have := idx_ge ((L s).drop (i + 1)) c
        split
        · rfl
        · rw [if_neg (by omega)]; omega
theorem toList_inj {s t : ByteArray} (h : s.toList = t.toList) : s = t := L_inj (by rw [← toList_L, ← toList_L, h])
theorem sameTexts_ok (l : List ByteArray) (h : l.length ≤ 1048580) : Ev (fun k => laws_sameTexts.f k l l) true := by
  unfold laws_sameTexts.f
  refine ev_pos rfl ?_
  have key : ∀ d i : Nat, i + d = l.length → Ev (fun k => laws_sameTexts.l0 k l l (i : Int)) true := by
    intro d
    induction d with
    | zero => intro i hi; exact Ev.step (f := fun _ => some true) (fun k => by rw [laws_sameTexts.l0, if_neg (by omega)]) (Ev.now _)
    | succ d ih => intro i hi; exact Ev.step (fun k => by rw [laws_sameTexts.l0, if_pos (by omega), if_pos (by omega), if_pos (by omega), if_pos rfl, wa1 i (by omega)]) (ih (i + 1) (by omega))
  exact key l.length 0 (by omega)
theorem has_in (l : List ByteArray) (s : ByteArray) (h : l.length ≤ 1048580) (hs : s ∈ l) : Ev (fun k => laws_has.f k l s) true := by
  unfold laws_has.f
  have key : ∀ d i : Nat, i + d = l.length → s ∈ l.drop i → Ev (fun k => laws_has.l0 k l s (i : Int)) true := by
    intro d
    induction d with
    | zero => intro i hi hm; rw [List.drop_of_length_le (by omega)] at hm; simp at hm
    | succ d ih =>
      intro i hi hm
      have hlt : i < l.length := by omega
      have es : rdOf ByteArray.empty l (i : Int) = l.getD i ByteArray.empty := rfl
      rw [drop_getD l i ByteArray.empty hlt] at hm
      by_cases he : (l.getD i ByteArray.empty).toList = s.toList
      · exact Ev.step (f := fun _ => some true) (fun k => by rw [laws_has.l0, if_pos (by omega), if_pos (by omega), es, if_pos he]) (Ev.now _)
      · refine Ev.step (fun k => by rw [laws_has.l0, if_pos (by omega), if_pos (by omega), es, if_neg he, wa1 i (by omega)]) (ih (i + 1) (by omega) ?_)
        rcases List.mem_cons.1 hm with hm | hm
        · exact absurd (by rw [hm]) he
        · exact hm
  exact key l.length 0 (by omega) (by rw [List.drop_zero]; exact hs)
end Go.Proofs.YtoidompkofomjaaGreatDoor.U

end
section
namespace Go.Proofs.YtoidompkofomjaaGreatDoor.U
open Go Go.RowKit
set_option linter.unusedVariables false
def val10 (a : Nat) : B → Nat
  | [] => a
  | c :: l => val10 (a * 10 + (c.toNat - 48)) l
theorem val10_append : ∀ (l m : B) (a : Nat), val10 a (l ++ m) = val10 (val10 a l) m
  | [], m, a => rfl
  | c :: l, m, a => by rw [List.cons_append]; exact val10_append l m _
def dgt (c : UInt8) : Bool := decide (48 ≤ c.toNat ∧ c.toNat ≤ 57)
theorem dgt_is (c : UInt8) : dgt c = true ↔ 48 ≤ c.toNat ∧ c.toNat ≤ 57 := by unfold dgt; exact decide_eq_true_iff
theorem dgt_of (i : Nat) (h : i < 10) : (UInt8.ofNat (48 + i)).toNat = 48 + i := by rw [UInt8.toNat_ofNat']; omega
theorem decDigits_step (u : Nat) (h : ¬ u < 10) : Lib.decDigits u = Lib.decDigits (u / 10) ++ [UInt8.ofNat (48 + u % 10)] := by
  conv => lhs; unfold Lib.decDigits
  rw [dif_neg h]
theorem dec_digits : ∀ (n u : Nat), u < n → (∀ c ∈ Lib.decDigits u, dgt c = true) ∧ val10 0 (Lib.decDigits u) = u := by
  intro n
  induction n with
  | zero => intro u h; omega
  | succ n ih =>
    intro u hu
    by_cases h : u < 10
    · rw [Lib.decDigits_one h]
      refine ⟨fun c hc => ?_, ?_⟩
      · rw [List.mem_singleton] at hc; subst hc; rw [dgt_is, dgt_of u h]; omega
      · show 0 * 10 + ((UInt8.ofNat (48 + u)).toNat - 48) = u
        rw [dgt_of u h]; omega
    · rw [decDigits_step u h]
      obtain ⟨h1, h2⟩ := ih (u / 10) (by omega)
      refine ⟨fun c hc => ?_, ?_⟩
      · rw [List.mem_append, List.mem_singleton] at hc
        rcases hc with hc | rfl
        · exact h1 c hc
        · rw [dgt_is, dgt_of _ (Nat.mod_lt _ (by decide))]; omega
      · rw [val10_append, h2]
        show (u / 10) * 10 + ((UInt8.ofNat (48 + u % 10)).toNat - 48) = u
        rw [dgt_of _ (Nat.mod_lt _ (by decide))]; omega
theorem dec_dgt (u : Nat) : ∀ c ∈ Lib.decDigits u, dgt c = true := (dec_digits (u + 1) u (by omega)).1
theorem dec_val (u : Nat) : val10 0 (Lib.decDigits u) = u := (dec_digits (u + 1) u (by omega)).2
theorem dec_ne (u : Nat) : Lib.decDigits u ≠ [] := by
  intro h
  have := Lib.decDigits_length u
  rw [h] at this
  have := Lib.nDigits_pos u
  simp at *; omega
theorem dec_len_lt (u d : Nat) (h : (Lib.decDigits u).length ≤ d) : u < 10 ^ d := by
  rw [Lib.decDigits_length] at h
  exact Nat.lt_of_lt_of_le (Lib.lt_pow_nDigits u) (Nat.pow_le_pow_right (by decide) h)
theorem dec_len_le : ∀ (d u : Nat), u < 10 ^ (d + 1) → (Lib.decDigits u).length ≤ d + 1 := by
  intro d
  induction d with
  | zero => intro u h; rw [Lib.decDigits_one (by omega)]; simp
  | succ d ih =>
    intro u h
    by_cases h1 : u < 10
    · rw [Lib.decDigits_one h1]; simp
    · rw [decDigits_step u h1, List.length_append]
      have := ih (u / 10) (by rw [Nat.div_lt_iff_lt_mul (by decide)]; rw [Nat.pow_succ] at h; exact h)
      simp; omega
theorem val10_lt : ∀ (l : B) (a : Nat), (∀ c ∈ l, dgt c = true) → val10 a l < (a + 1) * 10 ^ l.length
  | [], a, _ => by rw [List.length_nil, Nat.pow_zero]; show a < (a + 1) * 1; omega
  | c :: l, a, h => by
    have hc := (dgt_is c).1 (h c (by simp))
    have := val10_lt l (a * 10 + (c.toNat - 48)) fun x hx => h x (by simp [hx])
    refine Nat.lt_of_lt_of_le this ?_
    rw [List.length_cons, Nat.pow_succ, Nat.mul_comm (10 ^ l.length) 10, ← Nat.mul_assoc]
    exact Nat.mul_le_mul_right _ (by omega)
theorem val10_ge : ∀ (l : B) (a : Nat), a ≤ val10 a l
  | [], a => Nat.le_refl _
  | c :: l, a => Nat.le_trans (by omega) (val10_ge l (a * 10 + (c.toNat - 48)))
def rdec (l : B) : Int := if l.length ≤ 9 ∧ Lib.decDigits (val10 0 l) = l then (val10 0 l : Int) else -1
theorem p9 : (10 : Nat) ^ 9 = 1000000000 := by decide
theorem rdec_dec (u : Nat) (h : u < 1000000000) : rdec (Lib.decDigits u) = u := by
  unfold rdec
  have h9 : (Lib.decDigits u).length ≤ 9 := dec_len_le 8 u (by rw [show 8 + 1 = 9 from rfl, p9]; exact h)
  rw [dec_val, if_pos ⟨h9, rfl⟩]
theorem rdec_some {l : B} (h : ¬ rdec l = -1) : ∃ u : Nat, u < 1000000000 ∧ l = Lib.decDigits u ∧ rdec l = u := by
  unfold rdec at h ⊢
  by_cases hc : l.length ≤ 9 ∧ Lib.decDigits (val10 0 l) = l
  · refine ⟨val10 0 l, ?_, hc.2.symm, by rw [if_pos hc]⟩
    rw [← p9]; exact dec_len_lt _ 9 (by rw [hc.2]; exact hc.1)
  · rw [if_neg hc] at h; exact absurd rfl h
theorem rdec_range (l : B) : -1 ≤ rdec l ∧ rdec l ≤ 999999999 := by
  by_cases h : rdec l = -1
  · omega
  · obtain ⟨u, h1, _, h2⟩ := rdec_some h; omega
theorem parse_digits : ∀ (l : B) (a : Nat), (∀ c ∈ l, dgt c = true) → val10 a l < 1844674407370955161 → Lib.parseUint10 a l = .ok (val10 a l)
  | [], a, _, _ => rfl
  | c :: l, a, h, hv => by
    have hc := (dgt_is c).1 (h c (by simp))
    have hg := val10_ge l (a * 10 + (c.toNat - 48))
    have hv' : val10 (a * 10 + (c.toNat - 48)) l < 1844674407370955161 := hv
    unfold Lib.parseUint10
    rw [if_pos hc, if_neg (by omega), if_neg (by omega)]
    exact parse_digits l _ (fun x hx => h x (by simp [hx])) hv'
theorem atoi_dec (u : Nat) (h : u < 1000000000) : Lib.atoiAll (Lib.decDigits u) = .ok (u : Int) := by
  have hd := dec_dgt u
  have hv := dec_val u
  have hne := dec_ne u
  generalize Lib.decDigits u = l at *
  cases l with
  | nil => exact absurd rfl hne
  | cons c r =>
    have hc := (dgt_is c).1 (hd c (by simp))
    have hp : Lib.parseMag (c :: r) = .ok u := by
      unfold Lib.parseMag
      rw [if_neg (by simp), parse_digits _ _ hd (by omega), hv]
    unfold Lib.atoiAll
    simp only []
    rw [if_neg (by omega), hp]
    simp only []
    rw [if_neg (by omega), if_neg (by omega), if_neg (by omega)]
end Go.Proofs.YtoidompkofomjaaGreatDoor.U

end
section
namespace Go.Proofs.YtoidompkofomjaaGreatDoor.U
open Go Go.RowKit
set_option linter.unusedVariables false
set_option linter.unusedSimpArgs false
def cmpI (a b : Int) : Int := if a < b then -1 else if b < a then 1 else 0
def cmpP (a b : B) : Int := if 0 ≤ rdec a then (if 0 ≤ rdec b then cmpI (rdec a) (rdec b) else -1) else (if 0 ≤ rdec b then 1 else Lib.compareBytes a b)
def cmpL : List B → List B → Int
  | [], [] => 0
  | [], _ :: _ => -1
  | _ :: _, [] => 1
  | x :: l, y :: m => if cmpP x y = 0 then cmpL l m else cmpP x y
def cmpV (a b c : Int) (l : List B) (a' b' c' : Int) (l' : List B) : Int :=
  if cmpI a a' = 0 then (if cmpI b b' = 0 then (if cmpI c c' = 0 then (if l = [] ∨ l' = [] then cmpI l'.length l.length else cmpL l l') else cmpI c c') else cmpI b b') else cmpI a a'
def lex : List Int → List Int → Int
  | [], [] => 0
  | [], _ :: _ => -1
  | _ :: _, [] => 1
  | x :: l, y :: m => if x < y then -1 else if y < x then 1 else lex l m
theorem lex_self : ∀ l, lex l l = 0
  | [] => rfl
  | x :: l => by rw [lex, if_neg (by omega), if_neg (by omega), lex_self l]
theorem lex_eq : ∀ l m, lex l m = 0 → l = m
  | [], [], _ => rfl
  | [], _ :: _, h => by rw [lex] at h; omega
  | _ :: _, [], h => by rw [lex] at h; omega
  | x :: l, y :: m, h => by
    rw [lex] at h
    by_cases h1 : x < y
    · rw [if_pos h1] at h; omega
    · rw [if_neg h1] at h
      by_cases h2 : y < x
      · rw [if_pos h2] at h; omega
      · rw [if_neg h2] at h
        rw [lex_eq l m h, show x = y by omega]
theorem lex_anti : ∀ l m, lex l m = - lex m l
  | [], [] => rfl
  | [], _ :: _ => rfl
  | _ :: _, [] => rfl
  | x :: l, y :: m => by
    rw [lex, lex]
    by_cases h1 : x < y
    · rw [if_pos h1, if_neg (by omega), if_pos h1]
    · rw [if_neg h1]
      by_cases h2 : y < x
      · rw [if_pos h2, if_pos h2]; rfl
      · rw [if_neg h2, if_neg h2, if_neg h1, lex_anti l m]
theorem lex_le : ∀ l m n, lex l m ≤ 0 → lex m n ≤ 0 → lex l n ≤ 0
  | [], _, [], _, _ => Int.le_refl _
  | [], _, _ :: _, _, _ => by rw [lex]; omega
  | _ :: _, [], _, h, _ => by rw [lex] at h; omega
  | _ :: _, _ :: _, [], _, h => by rw [lex] at h; omega
  | x :: l, y :: m, z :: n, h, k => by
    rw [lex] at h k ⊢
    by_cases h1 : x < y
    · by_cases k1 : y < z
      · rw [if_pos (by omega)]; omega
      · rw [if_neg k1] at k
        by_cases k2 : z < y
        · rw [if_pos k2] at k; omega
        · rw [if_pos (by omega)]; omega
    · rw [if_neg h1] at h
      by_cases h2 : y < x
      · rw [if_pos h2] at h; omega
      · rw [if_neg h2] at h
        by_cases k1 : y < z
        · rw [if_pos (by omega)]; omega
        · rw [if_neg k1] at k
          by_cases k2 : z < y
          · rw [if_pos k2] at k; omega
          · rw [if_neg k2] at k
            rw [if_neg (by omega), if_neg (by omega)]
            exact lex_le l m n h k
theorem lex_cons (x : Int) (l m : List Int) : lex (x :: l) (x :: m) = lex l m := by rw [lex, if_neg (by omega), if_neg (by omega)]
def kT (x : B) : List Int := x.map fun c => (c.toNat : Int) + 1
def kP (x : B) : List Int := if 0 ≤ rdec x then [1, rdec x] else 2 :: (kT x ++ [0])
def kL (l : List B) : List Int := l.flatMap kP ++ [0]
def kV (a b c : Int) (l : List B) : List Int := a :: b :: c :: (if l = [] then [1] else 0 :: kL l)
theorem lex_kT : ∀ (x y : B) (r s : List Int), lex (kT x ++ 0 :: r) (kT y ++ 0 :: s) = if Lib.compareBytes x y = 0 then lex r s else Lib.compareBytes x y
  | [], [], r, s => by rw [Lib.compareBytes, if_pos rfl]; exact lex_cons 0 r s
  | [], y :: ys, r, s => by
    rw [Lib.compareBytes, if_neg (by omega)]
    show lex (0 :: r) (((y.toNat : Int) + 1) :: _) = -1
    rw [lex, if_pos (by omega)]
  | x :: xs, [], r, s => by
    rw [Lib.compareBytes, if_neg (by omega)]
    show lex (((x.toNat : Int) + 1) :: _) (0 :: s) = 1
    rw [lex, if_neg (by omega), if_pos (by omega)]
  | x :: xs, y :: ys, r, s => by
    show lex (((x.toNat : Int) + 1) :: (kT xs ++ 0 :: r)) (((y.toNat : Int) + 1) :: (kT ys ++ 0 :: s)) = _
    rw [lex, Lib.compareBytes]
    by_cases h1 : x < y
    · have := UInt8.lt_iff_toNat_lt.1 h1
      rw [if_pos (by omega), if_pos h1, if_neg (by omega)]
    · have h1' : ¬ x.toNat < y.toNat := fun h => h1 (UInt8.lt_iff_toNat_lt.2 h)
      rw [if_neg (by omega), if_neg h1]
      by_cases h2 : y < x
      · have := UInt8.lt_iff_toNat_lt.1 h2
        rw [if_pos (by omega), if_pos h2, if_neg (by omega)]
      · have h2' : ¬ y.toNat < x.toNat := fun h => h2 (UInt8.lt_iff_toNat_lt.2 h)
        rw [if_neg (by omega), if_neg h2]
        exact lex_kT xs ys r s
theorem cmpI_zero {a b : Int} (h : cmpI a b = 0) : a = b := by
  unfold cmpI at h
  by_cases h1 : a < b
  · rw [if_pos h1] at h; omega
  · rw [if_neg h1] at h
    by_cases h2 : b < a
    · rw [if_pos h2] at h; omega
    · omega
theorem cmpI_self (a : Int) : cmpI a a = 0 := by unfold cmpI; rw [if_neg (by omega), if_neg (by omega)]
theorem lex_cmpI (a b : Int) (r s : List Int) : lex (a :: r) (b :: s) = if cmpI a b = 0 then lex r s else cmpI a b := by
  rw [lex]
  unfold cmpI
  by_cases h1 : a < b
  · rw [if_pos h1, if_pos h1, if_neg (by omega)]
  · rw [if_neg h1, if_neg h1]
    by_cases h2 : b < a
    · rw [if_pos h2, if_pos h2, if_neg (by omega)]
    · rw [if_neg h2, if_neg h2, if_pos rfl]
theorem lex_kP (x y : B) (r s : List Int) : lex (kP x ++ r) (kP y ++ s) = if cmpP x y = 0 then lex r s else cmpP x y := by
  unfold kP cmpP
  by_cases h1 : 0 ≤ rdec x
  · rw [if_pos h1, if_pos h1]
    by_cases h2 : 0 ≤ rdec y
    · rw [if_pos h2, if_pos h2]
      show lex (1 :: rdec x :: r) (1 :: rdec y :: s) = _
      rw [lex_cons, lex_cmpI]
    · rw [if_neg h2, if_neg h2]
      show lex (1 :: rdec x :: r) (2 :: _) = _
      rw [lex, if_pos (by omega), if_neg (by omega)]
  · rw [if_neg h1, if_neg h1]
    by_cases h2 : 0 ≤ rdec y
    · rw [if_pos h2, if_pos h2]
      show lex (2 :: _) (1 :: rdec y :: s) = _
      rw [lex, if_neg (by omega), if_pos (by omega), if_neg (by omega)]
    · rw [if_neg h2, if_neg h2]
      show lex (2 :: ((kT x ++ [0]) ++ r)) (2 :: ((kT y ++ [0]) ++ s)) = _
      rw [lex_cons, List.append_assoc, List.append_assoc]
      exact lex_kT x y r s
theorem kP_head (x : B) : ∃ h t, kP x = h :: t ∧ 0 < h := by
  unfold kP
  by_cases h1 : 0 ≤ rdec x
  · rw [if_pos h1]; exact ⟨1, _, rfl, by omega⟩
  · rw [if_neg h1]; exact ⟨2, _, rfl, by omega⟩
theorem lex_kL : ∀ l m : List B, lex (kL l) (kL m) = cmpL l m
  | [], [] => by rw [cmpL]; exact lex_self _
  | [], y :: m => by
    obtain ⟨h, t, e, hp⟩ := kP_head y
    unfold kL
    rw [cmpL, List.flatMap_cons, e]
    show lex (0 :: []) (h :: _) = -1
    rw [lex, if_pos hp]
  | x :: l, [] => by
    obtain ⟨h, t, e, hp⟩ := kP_head x
    unfold kL
    rw [cmpL, List.flatMap_cons, e]
    show lex (h :: _) (0 :: []) = 1
    rw [lex, if_neg (by omega), if_pos hp]
  | x :: l, y :: m => by
    have ih := lex_kL l m
    unfold kL at ih ⊢
    rw [cmpL, List.flatMap_cons, List.flatMap_cons, List.append_assoc, List.append_assoc, lex_kP, ih]
theorem lex_kV (a b c : Int) (l : List B) (a' b' c' : Int) (l' : List B) : lex (kV a b c l) (kV a' b' c' l') = cmpV a b c l a' b' c' l' := by
  unfold kV cmpV
  rw [lex_cmpI, lex_cmpI, lex_cmpI]
  by_cases h1 : l = []
  · subst h1
    rw [if_pos rfl, if_pos (Or.inl rfl)]
    by_cases h2 : l' = []
    · subst h2; rw [if_pos rfl]; rfl
    · have h3 : 0 < l'.length := by cases l' with
        | nil => exact absurd rfl h2
        | cons x m => simp
      have e1 : lex [1] (0 :: kL l') = 1 := by rw [lex, if_neg (by omega), if_pos (by omega)]
      have e2 : cmpI (l'.length : Int) (([] : List B).length : Int) = 1 := by unfold cmpI; rw [List.length_nil, if_neg (by omega), if_pos (by omega)]
      rw [if_neg h2, e1, e2]
  · have h4 : 0 < l.length := by cases l with
        | nil => exact absurd rfl h1
        | cons x m => simp
    rw [if_neg h1]
    by_cases h2 : l' = []
    · subst h2
      have e1 : lex (0 :: kL l) [1] = -1 := by rw [lex, if_pos (by omega)]
      have e2 : cmpI (([] : List B).length : Int) (l.length : Int) = -1 := by unfold cmpI; rw [List.length_nil, if_pos (by omega)]
      rw [if_pos rfl, if_pos (Or.inr rfl), e1, e2]
    · rw [if_neg h2, lex_cons, lex_kL, if_neg (show ¬ (l = [] ∨ l' = []) from fun h => h.elim h1 h2)]
theorem bytes_zero : ∀ x y : B, Lib.compareBytes x y = 0 → x = y
  | [], [], _ => rfl
  | [], _ :: _, h => by rw [Lib.compareBytes] at h; omega
  | _ :: _, [], h => by rw [Lib.compareBytes] at h; omega
  | a :: x, b :: y, h => by
    rw [Lib.compareBytes] at h
    by_cases h1 : a < b
    · rw [if_pos h1] at h; omega
    · rw [if_neg h1] at h
      by_cases h2 : b < a
      · rw [if_pos h2] at h; omega
      · rw [if_neg h2] at h
        have h1' : ¬ a.toNat < b.toNat := fun h => h1 (UInt8.lt_iff_toNat_lt.2 h)
        have h2' : ¬ b.toNat < a.toNat := fun h => h2 (UInt8.lt_iff_toNat_lt.2 h)
        rw [bytes_zero x y h, UInt8.toNat_inj.1 (show a.toNat = b.toNat by omega)]
theorem rdec_inj {x y : B} (h : 0 ≤ rdec x) (e : rdec x = rdec y) : x = y := by
  obtain ⟨u, _, hx, hu⟩ := rdec_some (l := x) (by omega)
  obtain ⟨v, _, hy, hv⟩ := rdec_some (l := y) (by omega)
  have : u = v := by omega
  rw [hx, hy, this]
theorem cmpP_zero {x y : B} (h : cmpP x y = 0) : x = y := by
  unfold cmpP at h
  by_cases h1 : 0 ≤ rdec x
  · rw [if_pos h1] at h
    by_cases h2 : 0 ≤ rdec y
    · rw [if_pos h2] at h; exact rdec_inj h1 (cmpI_zero h)
    · rw [if_neg h2] at h; omega
  · rw [if_neg h1] at h
    by_cases h2 : 0 ≤ rdec y
    · rw [if_pos h2] at h; omega
    · rw [if_neg h2] at h; exact bytes_zero x y h
theorem cmpL_zero : ∀ l m : List B, cmpL l m = 0 → l = m
  | [], [], _ => rfl
  | [], _ :: _, h => by rw [cmpL] at h; omega
  | _ :: _, [], h => by rw [cmpL] at h; omega
  | x :: l, y :: m, h => by
    rw [cmpL] at h
    by_cases h1 : cmpP x y = 0
    · rw [if_pos h1] at h; rw [cmpP_zero h1, cmpL_zero l m h]
    · rw [if_neg h1] at h; exact absurd h h1
theorem cmpV_zero {a b c : Int} {l : List B} {a' b' c' : Int} {l' : List B} (h : cmpV a b c l a' b' c' l' = 0) : a = a' ∧ b = b' ∧ c = c' ∧ l = l' := by
  unfold cmpV at h
  by_cases h1 : cmpI a a' = 0
  · rw [if_pos h1] at h
    by_cases h2 : cmpI b b' = 0
    · rw [if_pos h2] at h
      by_cases h3 : cmpI c c' = 0
      · rw [if_pos h3] at h
        refine ⟨cmpI_zero h1, cmpI_zero h2, cmpI_zero h3, ?_⟩
        by_cases h4 : l = [] ∨ l' = []
        · rw [if_pos h4] at h
          have := cmpI_zero h
          rcases h4 with rfl | rfl
          · cases l' with
            | nil => rfl
            | cons x m => simp at this; omega
          · cases l with
            | nil => rfl
            | cons x m => simp at this; omega
        · rw [if_neg h4] at h; exact cmpL_zero l l' h
      · rw [if_neg h3] at h; exact absurd h h3
    · rw [if_neg h2] at h; exact absurd h h2
  · rw [if_neg h1] at h; exact absurd h h1
theorem val10_at : ∀ (x y : B) (a b : Nat), x.length = y.length → (∀ c ∈ x, dgt c = true) → (∀ c ∈ y, dgt c = true) → a < b → val10 a x < val10 b y
  | [], [], a, b, _, _, _, h => h
  | [], _ :: _, _, _, h, _, _, _ => by simp at h
  | _ :: _, [], _, _, h, _, _, _ => by simp at h
  | c :: x, d :: y, a, b, h, hx, hy, hab => by
    have hc := (dgt_is c).1 (hx c (by simp))
    exact val10_at x y _ _ (by simpa using h) (fun e he => hx e (by simp [he])) (fun e he => hy e (by simp [he])) (by omega)
theorem compare_val : ∀ (x y : B) (a : Nat), x.length = y.length → (∀ c ∈ x, dgt c = true) → (∀ c ∈ y, dgt c = true) → Lib.compareBytes x y = cmpI (val10 a x) (val10 a y)
  | [], [], a, _, _, _ => (cmpI_self _).symm
  | [], _ :: _, _, h, _, _ => by simp at h
  | _ :: _, [], _, h, _, _ => by simp at h
  | c :: x, d :: y, a, h, hx, hy => by
    have hc := (dgt_is c).1 (hx c (by simp))
    have hd := (dgt_is d).1 (hy d (by simp))
    have hx' : ∀ e ∈ x, dgt e = true := fun e he => hx e (by simp [he])
    have hy' : ∀ e ∈ y, dgt e = true := fun e he => hy e (by simp [he])
    have hl : x.length = y.length := by simpa using h
    rw [Lib.compareBytes]
    show _ = cmpI (val10 (a * 10 + (c.toNat - 48)) x) (val10 (a * 10 + (d.toNat - 48)) y)
    by_cases h1 : c < d
    · have h1' := UInt8.lt_iff_toNat_lt.1 h1
      have := val10_at x y (a * 10 + (c.toNat - 48)) (a * 10 + (d.toNat - 48)) hl hx' hy' (by omega)
      rw [if_pos h1]; unfold cmpI; rw [if_pos (by omega)]
    · have h1' : ¬ c.toNat < d.toNat := fun h => h1 (UInt8.lt_iff_toNat_lt.2 h)
      rw [if_neg h1]
      by_cases h2 : d < c
      · have h2' := UInt8.lt_iff_toNat_lt.1 h2
        have := val10_at y x (a * 10 + (d.toNat - 48)) (a * 10 + (c.toNat - 48)) hl.symm hy' hx' (by omega)
        rw [if_pos h2]; unfold cmpI; rw [if_neg (by omega), if_pos (by omega)]
      · have h2' : ¬ d.toNat < c.toNat := fun h => h2 (UInt8.lt_iff_toNat_lt.2 h)
        rw [if_neg h2, show d = c from UInt8.toNat_inj.1 (by omega)]
        exact compare_val x y _ hl hx' hy'
def stripz (x : B) : B := Lib.trimLeftB x 48
theorem strip_is (u : Nat) : (∀ c ∈ stripz (Lib.decDigits u), dgt c = true) ∧ val10 0 (stripz (Lib.decDigits u)) = u ∧ (∀ n, (stripz (Lib.decDigits u)).length = n + 1 → 10 ^ n ≤ u) := by
  have key : ∀ n v, v < n → 0 < v → ∃ c r, Lib.decDigits v = c :: r ∧ c ≠ 48 ∧ 10 ^ r.length ≤ v := by
    intro n
    induction n with
    | zero => intro v h; omega
    | succ n ih =>
      intro v hv h0
      by_cases h : v < 10
      · rw [Lib.decDigits_one h]
        refine ⟨_, [], rfl, ?_, by simp; omega⟩
        intro e
        have := congrArg UInt8.toNat e
        rw [dgt_of v h] at this
        simp at this; omega
      · obtain ⟨c, r, e, hc, hl⟩ := ih (v / 10) (by omega) (by omega)
        rw [decDigits_step v h, e]
        refine ⟨c, r ++ [UInt8.ofNat (48 + v % 10)], rfl, hc, ?_⟩
        rw [List.length_append, List.length_singleton, Nat.pow_succ]
        have := Nat.mul_le_mul_right 10 hl
        omega
  by_cases h0 : u = 0
  · subst h0
    have e : stripz (Lib.decDigits 0) = [] := by rw [Lib.decDigits_one (by omega)]; rfl
    rw [e]
    exact ⟨by simp, rfl, fun n h => by simp at h⟩
  · obtain ⟨c, r, e, hc, hl⟩ := key (u + 1) u (by omega) (by omega)
    have hs : stripz (Lib.decDigits u) = Lib.decDigits u := by
      unfold stripz Lib.trimLeftB
      rw [e, List.dropWhile_cons_of_neg (by simpa using hc)]
    rw [hs]
    refine ⟨dec_dgt u, dec_val u, fun n h => ?_⟩
    rw [e, List.length_cons] at h
    have : r.length = n := by omega
    rw [← this]; exact hl
theorem cmp_strip {x y : B} (hx : 0 ≤ rdec x) (hy : 0 ≤ rdec y) : (if cmpI (stripz x).length (stripz y).length = 0 then Lib.compareBytes (stripz x) (stripz y) else cmpI (stripz x).length (stripz y).length) = cmpI (rdec x) (rdec y) := by
  obtain ⟨u, _, ex, hu⟩ := rdec_some (l := x) (by omega)
  obtain ⟨v, _, ey, hv⟩ := rdec_some (l := y) (by omega)
  rw [hu, hv, ex, ey]
  obtain ⟨a1, a2, a3⟩ := strip_is u
  obtain ⟨b1, b2, b3⟩ := strip_is v
  generalize stripz (Lib.decDigits u) = p at *
  generalize stripz (Lib.decDigits v) = q at *
  have big : ∀ (p q : B) (u v : Nat), (∀ c ∈ p, dgt c = true) → val10 0 p = u → (∀ n, q.length = n + 1 → 10 ^ n ≤ v) → p.length < q.length → u < v := by
    intro p q u v h1 h2 h3 h4
    have := val10_lt p 0 h1
    rw [h2] at this
    have h5 := h3 (q.length - 1) (by omega)
    have h6 : 10 ^ p.length ≤ 10 ^ (q.length - 1) := Nat.pow_le_pow_right (by decide) (by omega)
    omega
  by_cases h : p.length = q.length
  · have e : cmpI (p.length : Int) (q.length : Int) = 0 := by rw [h]; exact cmpI_self _
    rw [if_pos e, compare_val p q 0 h a1 b1, a2, b2]
  · have lt : ∀ a b : Int, a < b → cmpI a b = -1 := fun a b h => by unfold cmpI; rw [if_pos h]
    have gt : ∀ a b : Int, b < a → cmpI a b = 1 := fun a b h => by unfold cmpI; rw [if_neg (by omega), if_pos h]
    by_cases h1 : p.length < q.length
    · have := big p q u v a1 a2 b3 h1
      rw [lt _ _ (show (p.length : Int) < q.length by omega), if_neg (by omega), lt _ _ (show (u : Int) < v by omega)]
    · have := big q p v u b1 b2 a3 (by omega)
      rw [gt _ _ (show (q.length : Int) < p.length by omega), if_neg (by omega), gt _ _ (show (v : Int) < u by omega)]
theorem text_less (a b : B) : (if Op.bytesLess a b = true then (-1 : Int) else if Op.bytesLess b a = true then 1 else 0) = Lib.compareBytes a b := by
  have h1 : ∀ a b : B, (Op.bytesLess a b = true ↔ Lib.compareBytes a b = -1) ∧ (Op.bytesLess b a = true ↔ Lib.compareBytes a b = 1) ∧ (Lib.compareBytes a b = -1 ∨ Lib.compareBytes a b = 0 ∨ Lib.compareBytes a b = 1) := by
    intro a
    induction a with
    | nil => intro b; cases b <;> simp [Op.bytesLess, Lib.compareBytes]
    | cons x a ih =>
      intro b
      cases b with
      | nil => simp [Op.bytesLess, Lib.compareBytes]
      | cons y b =>
        obtain ⟨i1, i2, i3⟩ := ih b
        rw [Op.bytesLess, Op.bytesLess, Lib.compareBytes]
        by_cases h1 : x < y
        · have h1' := UInt8.lt_iff_toNat_lt.1 h1
          have n2 : ¬ y < x := fun h => by have := UInt8.lt_iff_toNat_lt.1 h; omega
          have n3 : ¬ y = x := fun h => by rw [h] at h1'; omega
          simp [h1, n2, n3]
        · by_cases h2 : y < x
          · have h2' := UInt8.lt_iff_toNat_lt.1 h2
            have n3 : ¬ x = y := fun h => by rw [h] at h2'; omega
            simp [h1, h2, n3]
          · have h1' : ¬ x.toNat < y.toNat := fun h => h1 (UInt8.lt_iff_toNat_lt.2 h)
            have h2' : ¬ y.toNat < x.toNat := fun h => h2 (UInt8.lt_iff_toNat_lt.2 h)
            have e : x = y := UInt8.toNat_inj.1 (by omega)
            subst e
            simp [h1]
            exact ⟨i1, i2, i3⟩
  obtain ⟨i1, i2, i3⟩ := h1 a b
  by_cases c1 : Op.bytesLess a b = true
  · rw [if_pos c1, i1.1 c1]
  · rw [if_neg c1]
    by_cases c2 : Op.bytesLess b a = true
    · rw [if_pos c2, i2.1 c2]
    · rw [if_neg c2]
      rcases i3 with h | h | h
      · exact absurd (i1.2 h) c1
      · exact h.symm
      · exact absurd (i2.2 h) c2
def sg (s : Nat) : Nat := (s * 6364136223846793005 + 1442695040888963407) % 9007199254740992
def itf (f : Nat → Nat) : Nat → Nat → Nat
  | 0, s => s
  | n + 1, s => itf f n (f s)
theorem itf_add (f : Nat → Nat) : ∀ m n s, itf f (m + n) s = itf f n (itf f m s)
  | 0, n, s => by rw [Nat.zero_add]; rfl
  | m + 1, n, s => by rw [Nat.succ_add]; exact itf_add f m n (f s)
theorem itf_one (f : Nat → Nat) (n s : Nat) : itf f (n + 1) s = f (itf f n s) := by rw [itf_add]; rfl
def it (n s : Nat) : Nat := itf sg n s
theorem it_add (m n s : Nat) : it (m + n) s = it n (it m s) := itf_add sg m n s
theorem it_one (n s : Nat) : it (n + 1) s = sg (it n s) := itf_one sg n s
theorem itf_zero (f : Nat → Nat) (s : Nat) : itf f 0 s = s := rfl
theorem itf_next (f : Nat → Nat) (n s : Nat) : itf f (n + 1) s = itf f n (f s) := rfl
theorem it_next (n s : Nat) : it (n + 1) s = it n (sg s) := itf_next sg n s
theorem it_zero (s : Nat) : it 0 s = s := itf_zero sg s
theorem it_1 (s : Nat) : it 1 s = sg s := (it_next 0 s).trans (it_zero _)
def pw : Nat → Nat × Nat
  | 0 => (6364136223846793005 % 9007199254740992, 1442695040888963407 % 9007199254740992)
  | j + 1 => ((pw j).1 * (pw j).1 % 9007199254740992, ((pw j).2 * (pw j).1 + (pw j).2) % 9007199254740992)
def aff (p : Nat × Nat) (s : Nat) : Nat := (s * p.1 + p.2) % 9007199254740992
theorem aff_twice (p : Nat × Nat) (s M : Nat) : ((s * p.1 + p.2) % M * p.1 + p.2) % M = (s * (p.1 * p.1 % M) + (p.2 * p.1 + p.2) % M) % M := by
  have e : (s * p.1 + p.2) * p.1 + p.2 = s * (p.1 * p.1) + (p.2 * p.1 + p.2) := by rw [Nat.add_mul, Nat.mul_assoc, Nat.add_assoc]
  rw [Nat.add_mod, Nat.mod_mul_mod, ← Nat.add_mod, e, Nat.add_mod, Nat.add_mod (s * (p.1 * p.1 % M)), Nat.mul_mod_mod, Nat.mod_mod]
theorem pw0 (s : Nat) : sg s = aff (pw 0) s := by
  unfold sg aff pw
  simp only []
  omega
theorem it_pw (j : Nat) : ∀ s, it (2 ^ j) s = aff (pw j) s := by
  induction j with
  | zero => intro s; rw [Nat.pow_zero, it_1]; exact pw0 s
  | succ j ih =>
    intro s
    rw [Nat.pow_succ, Nat.mul_comm, Nat.two_mul, it_add, ih, ih]
    exact aff_twice (pw j) s 9007199254740992
theorem pw_succ {j a c x y : Nat} (h : pw j = (a, c)) (hx : a * a % 9007199254740992 = x) (hy : (c * a + c) % 9007199254740992 = y) : pw (j + 1) = (x, y) := by
  show ((pw j).1 * (pw j).1 % 9007199254740992, ((pw j).2 * (pw j).1 + (pw j).2) % 9007199254740992) = (x, y)
  rw [h]; simp only []; rw [hx, hy]
theorem pw45 : pw 45 = (3518437208883201, 175921860444160) := by
  have h0 : pw 0 = (5053549999652653, 1543160130404687) := rfl
  have h1 : pw 1 = (8893545856347625, 2513558822350130) := pw_succ h0 (by decide) (by decide)
  have h2 : pw 2 = (3723923786219025, 6222039650179508) := pw_succ h1 (by decide) (by decide)
  have h3 : pw 3 = (8402876825156897, 412927761213096) := pw_succ h2 (by decide) (by decide)
  have h4 : pw 4 = (8494674521800257, 8077273890007632) := pw_succ h3 (by decide) (by decide)
  have h5 : pw 5 = (2279854088686721, 334940883470496) := pw_succ h4 (by decide) (by decide)
  have h6 : pw 6 = (1666582322174209, 5999675586797888) := pw_succ h5 (by decide) (by decide)
  have h7 : pw 7 = (228747937296897, 6001844078510720) := pw_succ h6 (by decide) (by decide)
  have h8 : pw 8 = (2126514927395841, 5427765555037440) := pw_succ h7 (by decide) (by decide)
  have h9 : pw 9 = (7541893529782273, 5814478551517696) := pw_succ h8 (by decide) (by decide)
  have h10 : pw 10 = (5666581573898241, 209632069686272) := pw_succ h9 (by decide) (by decide)
  have h11 : pw 11 = (5095289834381313, 2172052359882752) := pw_succ h10 (by decide) (by decide)
  have h12 : pw 12 = (7988256871694337, 3310474618753024) := pw_succ h11 (by decide) (by decide)
  have h13 : pw 13 = (6764801299349505, 7371009239851008) := pw_succ h12 (by decide) (by decide)
  have h14 : pw 14 = (484980540637185, 2775706211794944) := pw_succ h13 (by decide) (by decide)
  have h15 : pw 15 = (4101305772670977, 83331719004160) := pw_succ h14 (by decide) (by decide)
  have h16 : pw 16 = (3839491708289025, 2219713640071168) := pw_succ h15 (by decide) (by decide)
  have h17 : pw 17 = (8240902577848321, 5896228647337984) := pw_succ h16 (by decide) (by decide)
  have h18 : pw 18 = (715083291295745, 8612463508717568) := pw_succ h17 (by decide) (by decide)
  have h19 : pw 19 = (1413673908174849, 4504951873601536) := pw_succ h18 (by decide) (by decide)
  have h20 : pw 20 = (2761377118683137, 3165999445573632) := pw_succ h19 (by decide) (by decide)
  have h21 : pw 21 = (5258871446700033, 970780194111488) := pw_succ h20 (by decide) (by decide)
  have h22 : pw 22 = (455012475994113, 7518283364302848) := pw_succ h21 (by decide) (by decide)
  have h23 : pw 23 = (5695099556069377, 1314661613961216) := pw_succ h22 (by decide) (by decide)
  have h24 : pw 24 = (3508899764240385, 1784898297790464) := pw_succ h23 (by decide) (by decide)
  have h25 : pw 25 = (2514199901110273, 192096875053056) := pw_succ h24 (by decide) (by decide)
  have h26 : pw 26 = (5028399802220545, 4887793377476608) := pw_succ h25 (by decide) (by decide)
  have h27 : pw 27 = (1049600349700097, 768387500212224) := pw_succ h26 (by decide) (by decide)
  have h28 : pw 28 = (2099200699400193, 1536775000424448) := pw_succ h27 (by decide) (by decide)
  have h29 : pw 29 = (4198401398800385, 3073550000848896) := pw_succ h28 (by decide) (by decide)
  have h30 : pw 30 = (8396802797600769, 6147100001697792) := pw_succ h29 (by decide) (by decide)
  have h31 : pw 31 = (7786406340460545, 3287000748654592) := pw_succ h30 (by decide) (by decide)
  have h32 : pw 32 = (6565613426180097, 6574001497309184) := pw_succ h31 (by decide) (by decide)
  have h33 : pw 33 = (4124027597619201, 4140803739877376) := pw_succ h32 (by decide) (by decide)
  have h34 : pw 34 = (8248055195238401, 8281607479754752) := pw_succ h33 (by decide) (by decide)
  have h35 : pw 35 = (7488911135735809, 7556015704768512) := pw_succ h34 (by decide) (by decide)
  have h36 : pw 36 = (5970623016730625, 6104832154796032) := pw_succ h35 (by decide) (by decide)
  have h37 : pw 37 = (2934046778720257, 3202465054851072) := pw_succ h36 (by decide) (by decide)
  have h38 : pw 38 = (5868093557440513, 6404930109702144) := pw_succ h37 (by decide) (by decide)
  have h39 : pw 39 = (2728987860140033, 3802660964663296) := pw_succ h38 (by decide) (by decide)
  have h40 : pw 40 = (5457975720280065, 7605321929326592) := pw_succ h39 (by decide) (by decide)
  have h41 : pw 41 = (1908752185819137, 6203444603912192) := pw_succ h40 (by decide) (by decide)
  have h42 : pw 42 = (3817504371638273, 3399689953083392) := pw_succ h41 (by decide) (by decide)
  have h43 : pw 43 = (7635008743276545, 6799379906166784) := pw_succ h42 (by decide) (by decide)
  have h44 : pw 44 = (6262818231812097, 4591560557592576) := pw_succ h43 (by decide) (by decide)
  have h45 : pw 45 = (3518437208883201, 175921860444160) := pw_succ h44 (by decide) (by decide)
  exact h45
theorem jump (s : Nat) (h : s < 9007199254740992) : it 35184372088832 s = (s + 35184372088832 * (100 * s + 5)) % 9007199254740992 := by
  have e : (35184372088832 : Nat) = 2 ^ 45 := by decide
  have := it_pw 45 s
  rw [← e, pw45] at this
  rw [this]
  unfold aff
  simp only []
  omega
theorem jumps (s : Nat) (h : s < 9007199254740992) : ∀ t, it (t * 35184372088832) s = (s + 35184372088832 * (t * (100 * s + 5))) % 9007199254740992 := by
  intro t
  induction t with
  | zero => rw [Nat.zero_mul, it_zero, Nat.zero_mul, Nat.mul_zero, Nat.add_zero, Nat.mod_eq_of_lt h]
  | succ t ih =>
    have e0 : (t + 1) * (100 * s + 5) = t * (100 * s + 5) + (100 * s + 5) := Nat.succ_mul _ _
    rw [Nat.succ_mul t 35184372088832, it_add, ih, jump _ (Nat.mod_lt _ (by decide)), e0]
    generalize t * (100 * s + 5) = X
    have hq := Nat.div_add_mod (s + 35184372088832 * X) 9007199254740992
    generalize (s + 35184372088832 * X) / 9007199254740992 = q at hq
    generalize (s + 35184372088832 * X) % 9007199254740992 = st at hq ⊢
    have e1 : st + 35184372088832 * (100 * st + 5) + 9007199254740992 * (q * 3518437208883201) = s + 35184372088832 * (X + (100 * s + 5)) + 9007199254740992 * (13743895347200 * X) := by omega
    have f1 := Nat.add_mul_mod_self_left (st + 35184372088832 * (100 * st + 5)) 9007199254740992 (q * 3518437208883201)
    have f2 := Nat.add_mul_mod_self_left (s + 35184372088832 * (X + (100 * s + 5))) 9007199254740992 (13743895347200 * X)
    rw [← f1, e1, f2]
def bx (z : Nat) : Nat := (z / 8589934592 % 256) ^^^ (z / 35184372088832 % 256)
theorem bx_lt (z : Nat) : bx z < 256 := by
  have h := Nat.xor_lt_two_pow (x := z / 8589934592 % 256) (y := z / 35184372088832 % 256) (n := 8) (Nat.mod_lt _ (by decide)) (Nat.mod_lt _ (by decide))
  exact h
theorem bx_up (z u : Nat) : bx ((z + 35184372088832 * u) % 9007199254740992) = (z / 8589934592 % 256) ^^^ ((z / 35184372088832 + u) % 256) := by
  unfold bx
  have e1 : (z + 35184372088832 * u) % 9007199254740992 / 8589934592 % 256 = z / 8589934592 % 256 := by omega
  have e2 : (z + 35184372088832 * u) % 9007199254740992 / 35184372088832 % 256 = (z / 35184372088832 + u) % 256 := by omega
  rw [e1, e2]
theorem sg_up (z u : Nat) : sg ((z + 35184372088832 * u) % 9007199254740992) = (sg z + 35184372088832 * (45 * u)) % 9007199254740992 := by
  unfold sg; omega
theorem bx_up2 (z u : Nat) : bx (sg ((z + 35184372088832 * u) % 9007199254740992)) = (sg z / 8589934592 % 256) ^^^ ((sg z / 35184372088832 + 45 * u) % 256) := by
  rw [sg_up, bx_up]
def dull (b : Nat) : Bool := b % 5 == 1 || b % 5 == 2
def dull0 (b : Nat) : Bool := dull b || b % 9 == 0
theorem n_dull : ((List.range 256).filter dull).length = 102 := by decide +kernel
theorem n_dull0 : ((List.range 256).filter dull0).length = 120 := by decide +kernel
end Go.Proofs.YtoidompkofomjaaGreatDoor.U

end
section
namespace Go.Proofs.YtoidompkofomjaaGreatDoor.U
open Go Go.RowKit Go.Proofs.YtoidompkofomjaaGreatDoorW.PrintWords Go.Proofs.YtoidompkofomjaaGreatDoor.G
theorem spec_l01In_eq (a b c : Int) : spec_l01In.f a b c = some (decide (b ≤ a ∧ a ≤ c)) := by
  unfold spec_l01In.f
  by_cases h : a ≥ b
  · rw [if_pos h]; by_cases h2 : a ≤ c <;> simp [h2] <;> omega
  · rw [if_neg h]; simp; omega
theorem impl_within_eq (a b c : Int) : impl_within.f a b c = some (decide (b ≤ a ∧ a ≤ c)) := by
  unfold impl_within.f
  by_cases h : b ≤ a
  · rw [if_pos h]; by_cases h2 : a ≤ c <;> simp [h2, h]
  · rw [if_neg h]; simp [h]
end Go.Proofs.YtoidompkofomjaaGreatDoor.U

end
section
namespace Go.Proofs.YtoidompkofomjaaGreatDoor.U
open Go Go.RowKit Go.Proofs.YtoidompkofomjaaGreatDoorW.PrintWords Go.Proofs.YtoidompkofomjaaGreatDoor.G
set_option linter.unusedVariables false
set_option linter.unusedSimpArgs false
theorem itoa_nat (u : Nat) : Lib.itoa (u : Int) = Lib.decDigits u := by unfold Lib.itoa; rw [if_neg (by omega)]; simp
theorem rdec_bad {l : B} (h : ∃ c ∈ l, dgt c = false) : rdec l = -1 := by
  unfold rdec
  rw [if_neg]
  rintro ⟨_, e⟩
  obtain ⟨c, hc, hd⟩ := h
  have := dec_dgt (val10 0 l) c (by rw [e]; exact hc)
  rw [hd] at this; cases this
theorem rdec_long {l : B} (h : 9 < l.length) : rdec l = -1 := by
  unfold rdec
  rw [if_neg]
  rintro ⟨e, _⟩; omega
theorem impl_ReadDec_eq (s : ByteArray) (hs : s.size ≤ 1099511627776) : impl_ReadDec.f s = some (rdec (L s)) := by
  unfold impl_ReadDec.f
  rw [if_pos (by omega)]
  show (match Lib.atoiAll (L s) with | .ok n => _ | _ => some (-1)) = _
  by_cases hr : rdec (L s) = -1
  · rw [hr]
    cases ha : Lib.atoiAll (L s) with
    | ok n =>
      simp only []
      rw [impl_within_eq, Option.bind_some]
      by_cases hn : 0 ≤ n ∧ n ≤ 999999999
      · rw [if_pos (decide_eq_true hn), impl_DecText_eq n (by omega) (by omega), Option.bind_some, toList_S, toList_L]
        by_cases e : Lib.itoa n = L s
        · exfalso
          have hu : n = ((n.toNat : Nat) : Int) := by omega
          rw [hu, itoa_nat] at e
          rw [← e, rdec_dec _ (by omega)] at hr
          omega
        · rw [if_neg e]
      · rw [if_neg (by simpa using hn)]
    | _ => rfl
  · obtain ⟨u, hu, hl, hv⟩ := rdec_some hr
    rw [hv, hl, atoi_dec u hu]
    simp only []
    rw [impl_within_eq, Option.bind_some, if_pos (decide_eq_true (by omega)), impl_DecText_eq _ (by omega) (by omega), Option.bind_some, toList_S, toList_L, hl, itoa_nat, if_pos rfl]
theorem step10 (a : Nat) (c : UInt8) (ha : a < 1000000000) (hc : dgt c = true) : wrap64 ((wrap64 ((wrap64 (10 * (a : Int))) + (wrap64 (c.toNat : Int)))) - 48) = ((a * 10 + (c.toNat - 48) : Nat) : Int) := by
  have h := (dgt_is c).1 hc
  rw [w64 (n := 10 * (a : Int)) (by omega) (by omega), w64 (n := (c.toNat : Int)) (by omega) (by omega), w64 (n := 10 * (a : Int) + (c.toNat : Int)) (by omega) (by omega), w64 (by omega) (by omega)]
  omega
theorem spec_ReadDec_ev (s : ByteArray) (hs : s.size ≤ 1099511627776) : Ev (fun k => spec_ReadDec.f k s) (rdec (L s)) := by
  have hsz := size_L s
  have key : ∀ (d i : Nat), i + d = (L s).length → i ≤ 9 → (∀ c ∈ (L s).take i, dgt c = true) → Ev (fun k => spec_ReadDec.l0 k s (val10 0 ((L s).take i) : Int) (i : Int)) (rdec (L s)) := by
    intro d
    induction d with
    | zero =>
      intro i hi h9 hall
      have e : (L s).take i = L s := List.take_of_length_le (by omega)
      rw [e] at hall ⊢
      have hlt : val10 0 (L s) < 1000000000 := by
        have := val10_lt (L s) 0 hall
        have h2 : 10 ^ (L s).length ≤ 10 ^ 9 := Nat.pow_le_pow_right (by decide) (by omega)
        rw [p9] at h2; omega
      have hd := spec_DecText_ev ((val10 0 (L s) : Nat) : Int) (by omega) (by omega)
      rw [itoa_nat] at hd
      refine Ev.step (f := fun k => if s.toList = ([] : List UInt8) then some (-1) else (spec_DecText.f k ((val10 0 (L s) : Nat) : Int)).bind fun t => if t.toList = s.toList then some ((val10 0 (L s) : Nat) : Int) else some (-1)) (fun k => by rw [spec_ReadDec.l0, if_neg (by omega)]) ?_
      rw [toList_L]
      unfold rdec
      by_cases h0 : L s = []
      · refine ev_pos h0 (ev_use (Ev.now _) ?_)
        rw [if_neg]
        rintro ⟨_, e2⟩
        rw [h0] at e2
        exact dec_ne _ e2
      · refine ev_neg h0 (Ev.bind hd ?_)
        rw [toList_S]
        by_cases h1 : Lib.decDigits (val10 0 (L s)) = L s
        · exact ev_use (ev_pos h1 (Ev.now _)) (if_pos ⟨by omega, h1⟩).symm
        · exact ev_use (ev_neg h1 (Ev.now _)) (if_neg (fun h => h1 h.2)).symm
    | succ d ih =>
      intro i hi h9 hall
      have hlt : i < (L s).length := by omega
      have hb : bt s (i : Int) = ((at_ (L s) i).toNat : Int) := bt_nat s i
      have hby := byte_lt (at_ (L s) i)
      by_cases hc : dgt (at_ (L s) i) = true
      · by_cases hl : (L s).length > 9
        · refine Ev.step (f := fun k => some (-1)) (fun k => ?_) (ev_use (Ev.now _) (rdec_long hl).symm)
          rw [spec_ReadDec.l0, if_pos (by omega), if_pos (by omega), hb, spec_l01In_eq, Option.bind_some, w64 (by omega) (by omega), if_pos (decide_eq_true (by have := (dgt_is _).1 hc; omega)), if_pos (by omega)]
        · have htk : (L s).take (i + 1) = (L s).take i ++ [at_ (L s) i] := take_at _ _ hlt
          have hv : val10 0 ((L s).take (i + 1)) = val10 0 ((L s).take i) * 10 + ((at_ (L s) i).toNat - 48) := by rw [htk, val10_append]; rfl
          have hlt9 : val10 0 ((L s).take i) < 1000000000 := by
            have := val10_lt ((L s).take i) 0 hall
            have h2 : 10 ^ ((L s).take i).length ≤ 10 ^ 9 := Nat.pow_le_pow_right (by decide) (by rw [List.length_take]; omega)
            rw [p9] at h2; omega
          refine Ev.step (f := fun k => spec_ReadDec.l0 k s (val10 0 ((L s).take (i + 1)) : Int) ((i + 1 : Nat) : Int)) (fun k => ?_) (ih (i + 1) (by omega) (by omega) ?_)
          · rw [spec_ReadDec.l0, if_pos (by omega), if_pos (by omega), hb, spec_l01In_eq, Option.bind_some, w64 (n := ((at_ (L s) i).toNat : Int)) (by omega) (by omega), if_pos (decide_eq_true (by have := (dgt_is _).1 hc; omega)), if_neg (by omega), hv, wa1 i (by omega)]
            have := step10 (val10 0 ((L s).take i)) (at_ (L s) i) hlt9 hc
            rw [w64 (n := ((at_ (L s) i).toNat : Int)) (by omega) (by omega)] at this
            rw [this]
          · intro c hcm
            rw [htk, List.mem_append, List.mem_singleton] at hcm
            rcases hcm with h | rfl
            · exact hall c h
            · exact hc
      · have hbad : rdec (L s) = -1 := rdec_bad ⟨at_ (L s) i, by rw [at_eq _ _ hlt]; exact List.getElem_mem hlt, by simpa using hc⟩
        refine Ev.step (f := fun k => some (-1)) (fun k => ?_) (ev_use (Ev.now _) hbad.symm)
        rw [spec_ReadDec.l0, if_pos (by omega), if_pos (by omega), hb, spec_l01In_eq, Option.bind_some, w64 (by omega) (by omega), if_neg]
        rw [decide_eq_true_iff]
        intro h; exact hc ((dgt_is _).2 (by omega))
  have := key (L s).length 0 (by omega) (by omega) (by simp)
  exact this
theorem all_loop {α : Type} (l : List α) (z : α) (p : α → Bool) (last : Bool) (g : Nat → Int → Option Bool) (hend : Ev (fun k => g k (l.length : Int)) last)
    (hstep : ∀ (i : Nat) (r : Bool), i < l.length → Ev (fun k => g k ((i + 1 : Nat) : Int)) r → Ev (fun k => g k (i : Int)) (p (l.getD i z) && r)) : Ev (fun k => g k 0) (l.all p && last) := by
  have key : ∀ d i, i + d = l.length → Ev (fun k => g k (i : Int)) ((l.drop i).all p && last) := by
    intro d
    induction d with
    | zero =>
      intro i hi
      have e : i = l.length := by omega
      subst e
      rw [List.drop_length]; exact hend
    | succ d ih =>
      intro i hi
      rw [drop_getD l i z (by omega), List.all_cons, Bool.and_assoc]
      exact hstep i _ (by omega) (ih (i + 1) (by omega))
  have := key l.length 0 (by omega)
  exact this
theorem getD_at (l : B) (i : Nat) : l.getD i 0 = at_ l i := rfl
def isNum (l : B) : Bool := l.all dgt && (l != [])
def idc (c : UInt8) : Bool := decide (97 ≤ c.toNat ∧ c.toNat ≤ 122) || decide (65 ≤ c.toNat ∧ c.toNat ≤ 90) || decide (48 ≤ c.toNat ∧ c.toNat ≤ 57) || c == 45
def preOk (l : B) : Bool := l.all idc && (decide (1 ≤ l.length ∧ l.length ≤ 20) && (!isNum l || decide (0 ≤ rdec l)))
def num9 (n : Int) : Bool := decide (0 ≤ n ∧ n ≤ 999999999)
def verOk (a b c : Int) (l : List ByteArray) : Bool := (num9 a && num9 b && num9 c) && (l.all (fun p => preOk (L p)) && decide (l.length ≤ 5))
theorem spec_dgt (c : UInt8) : spec_l01In.f (wrap64 (c.toNat : Int)) 48 57 = some (dgt c) := by
  have := byte_lt c
  rw [spec_l01In_eq, w64 (by omega) (by omega)]
  congr 1
  unfold dgt
  by_cases h : 48 ≤ c.toNat ∧ c.toNat ≤ 57
  · rw [decide_eq_true h, decide_eq_true (by omega)]
  · rw [decide_eq_false h, decide_eq_false (by omega)]
theorem spec_l02Digits_ev (s : ByteArray) (hs : s.size ≤ 1099511627776) : Ev (fun k => spec_l02Digits.f k s) (isNum (L s)) := by
  have hsz := size_L s
  refine all_loop (L s) 0 dgt ((L s) != []) (fun k i => spec_l02Digits.l0 k s i) ?_ ?_
  · exact Ev.step (f := fun k => some (s.toList != ([] : List UInt8))) (fun k => by show spec_l02Digits.l0 (k + 1) s _ = _; rw [spec_l02Digits.l0, if_neg (by omega)]) (by rw [toList_L]; exact Ev.now _)
  · intro i r hi hr
    rw [getD_at]
    have hb : bt s (i : Int) = ((at_ (L s) i).toNat : Int) := bt_nat s i
    by_cases h : dgt (at_ (L s) i) = true
    · rw [h, Bool.true_and]
      refine Ev.step (fun k => ?_) hr
      show spec_l02Digits.l0 (k + 1) s _ = _
      rw [spec_l02Digits.l0, if_pos (by omega), if_pos (by omega), hb, spec_dgt, Option.bind_some, if_pos h, wa1 i (by omega)]
    · refine Ev.step (f := fun k => some false) (fun k => ?_) (by simp only [Bool.not_eq_true] at h; rw [h]; exact Ev.now _)
      show spec_l02Digits.l0 (k + 1) s _ = _
      rw [spec_l02Digits.l0, if_pos (by omega), if_pos (by omega), hb, spec_dgt, Option.bind_some, if_neg h]
theorem id_spec (c : UInt8) : ∃ a b, spec_l01Letter.f (c.toNat : Int) = some a ∧ spec_l01Great.f (c.toNat : Int) = some b ∧ idc c = (a || b || decide ((c.toNat : Int) = 45)) := by
  have ha : ∀ c : UInt8, spec_l01Letter.f (c.toNat : Int) = some (decide (97 ≤ c.toNat ∧ c.toNat ≤ 122) || decide (48 ≤ c.toNat ∧ c.toNat ≤ 57)) := by refine all_bytes ?_; decide +kernel
  have hb : ∀ c : UInt8, spec_l01Great.f (c.toNat : Int) = some (decide (65 ≤ c.toNat ∧ c.toNat ≤ 90)) := by refine all_bytes ?_; decide +kernel
  refine ⟨_, _, ha c, hb c, ?_⟩
  revert c; refine all_bytes ?_; decide +kernel
theorem spec_id {α : Type} (c : UInt8) (x : Option α) (y : Option α) : ((spec_l01Letter.f (c.toNat : Int)).bind fun t289 => (if t289 = true then x else ((spec_l01Great.f (c.toNat : Int)).bind fun t290 => (if t290 = true then x else (if (c.toNat : Int) = 45 then x else y))))) = if idc c = true then x else y := by
  obtain ⟨a, b, ha, hb, hc⟩ := id_spec c
  rw [ha, hb, hc, Option.bind_some, Option.bind_some]
  cases a <;> cases b <;> simp
theorem spec_l02Pre_ev (s : ByteArray) (hs : s.size ≤ 1099511627776) : Ev (fun k => spec_l02Pre.f k s) (preOk (L s)) := by
  have hsz := size_L s
  have hr := rdec_range (L s)
  refine all_loop (L s) 0 idc _ (fun k i => spec_l02Pre.l0 k s i) ?_ ?_
  · refine Ev.step (f := fun k => (spec_l01In.f (s.size : Int) 1 20).bind fun t286 => (if t286 = true then ((spec_l02Digits.f k s).bind fun t287 => (if t287 = true then ((spec_ReadDec.f k s).bind fun t288 => (some (decide (t288 ≥ 0)))) else (some true))) else (some false))) (fun k => by show spec_l02Pre.l0 (k + 1) s _ = _; rw [spec_l02Pre.l0, if_neg (by omega)]) ?_
    refine ev_const (spec_l01In_eq _ _ _) ?_
    by_cases h1 : 1 ≤ (L s).length ∧ (L s).length ≤ 20
    · rw [decide_eq_true h1, Bool.true_and]
      refine ev_pos (decide_eq_true (by omega)) (Ev.bind (spec_l02Digits_ev s hs) ?_)
      by_cases h2 : isNum (L s) = true
      · rw [h2, Bool.not_true, Bool.false_or]
        exact ev_pos rfl (Ev.bind (spec_ReadDec_ev s hs) (Ev.now _))
      · refine ev_use (ev_neg h2 (Ev.now _)) ?_
        simp only [Bool.not_eq_true] at h2; rw [h2]; rfl
    · rw [decide_eq_false h1]
      exact ev_neg (by simp; omega) (Ev.now _)
  · intro i r hi hr
    rw [getD_at]
    have hb : bt s (i : Int) = ((at_ (L s) i).toNat : Int) := bt_nat s i
    by_cases h : idc (at_ (L s) i) = true
    · rw [h, Bool.true_and]
      refine Ev.step (fun k => ?_) hr
      show spec_l02Pre.l0 (k + 1) s _ = _
      rw [spec_l02Pre.l0, if_pos (by omega), if_pos (by omega), hb, spec_id, if_pos h, wa1 i (by omega)]
    · refine Ev.step (f := fun k => some false) (fun k => ?_) (by simp only [Bool.not_eq_true] at h; rw [h]; exact Ev.now _)
      show spec_l02Pre.l0 (k + 1) s _ = _
      rw [spec_l02Pre.l0, if_pos (by omega), if_pos (by omega), hb, spec_id, if_neg h]
theorem spec_num9 (n : Int) : spec_l01In.f n 0 999999999 = some (num9 n) := spec_l01In_eq _ _ _
theorem impl_num9 (n : Int) : impl_within.f n 0 999999999 = some (num9 n) := impl_within_eq _ _ _
theorem len5 (n : Nat) : decide ((n : Int) ≤ 5) = decide (n ≤ 5) := by
  by_cases h : n ≤ 5
  · rw [decide_eq_true h, decide_eq_true (by omega)]
  · rw [decide_eq_false h, decide_eq_false (by omega)]
theorem spec_VersionOk_ev (a b c : Int) (l : List ByteArray) (hl : l.length ≤ 1125899906842624) (hs : ∀ x ∈ l, x.size ≤ 1099511627776) : Ev (fun k => spec_VersionOk.f k a b c l) (verOk a b c l) := by
  have hgo : Ev (fun k => spec_VersionOk.f k a b c l) (l.all (fun p => preOk (L p)) && (num9 a && (num9 b && (num9 c && decide (l.length ≤ 5))))) := by
    refine all_loop l ByteArray.empty (fun p => preOk (L p)) _ (fun k i => spec_VersionOk.l0 k i a b c l) ?_ ?_
    · refine Ev.step (f := fun k => some (num9 a && (num9 b && (num9 c && decide (l.length ≤ 5))))) (fun k => ?_) (Ev.now _)
      show spec_VersionOk.l0 (k + 1) _ a b c l = _
      rw [spec_VersionOk.l0, if_neg (by omega), spec_num9, spec_num9, spec_num9, len5]
      cases num9 a <;> cases num9 b <;> cases num9 c <;> rfl
    · intro i r hi hr
      have hx := spec_l02Pre_ev (l.getD i ByteArray.empty) (hs _ (getD_mem l i _ hi))
      refine Ev.step (f := fun k => (spec_l02Pre.f k (l.getD i ByteArray.empty)).bind fun t => if t = true then spec_VersionOk.l0 k ((i + 1 : Nat) : Int) a b c l else some false) (fun k => ?_) (Ev.bind hx ?_)
      · show spec_VersionOk.l0 (k + 1) _ a b c l = _
        rw [spec_VersionOk.l0, if_pos (by omega), if_pos (by omega), wa1 i (by omega)]; rfl
      · by_cases h : preOk (L (l.getD i ByteArray.empty)) = true
        · rw [h, Bool.true_and]; exact ev_pos rfl hr
        · simp only [Bool.not_eq_true] at h; rw [h]; exact ev_neg (by simp) (Ev.now _)
  refine ev_use hgo ?_
  unfold verOk
  cases num9 a <;> cases num9 b <;> cases num9 c <;> simp
theorem id_impl (c : UInt8) : impl_VersionOk_1.f (c.toNat : Int) = some (idc c) := by
  revert c; refine all_bytes ?_; decide +kernel
theorem impl_dgt (c : UInt8) : impl_isDigit.f (c.toNat : Int) = some (dgt c) := by
  revert c; refine all_bytes ?_; decide +kernel
theorem impl_all_id (s : ByteArray) (hs : s.size ≤ 1099511627776) : Ev (fun k => impl_all__impl_VersionOk_1.f k s) ((L s).all idc) := by
  have hsz := size_L s
  rw [← Bool.and_true ((L s).all idc)]
  refine all_loop (L s) 0 idc true (fun k i => impl_all__impl_VersionOk_1.l0 k s (s.size : Int) i) ?_ ?_
  · exact Ev.step (f := fun k => some true) (fun k => by show impl_all__impl_VersionOk_1.l0 (k + 1) s _ _ = _; rw [impl_all__impl_VersionOk_1.l0, if_neg (by omega)]) (Ev.now _)
  · intro i r hi hr
    rw [getD_at]
    have hb : bt s (i : Int) = ((at_ (L s) i).toNat : Int) := bt_nat s i
    by_cases h : idc (at_ (L s) i) = true
    · rw [h, Bool.true_and]
      refine Ev.step (fun k => ?_) hr
      show impl_all__impl_VersionOk_1.l0 (k + 1) s _ _ = _
      rw [impl_all__impl_VersionOk_1.l0, if_pos (by omega), if_pos (by omega), if_pos (by omega), hb, id_impl, Option.bind_some, if_pos h, wa1 i (by omega)]
    · refine Ev.step (f := fun k => some false) (fun k => ?_) (by simp only [Bool.not_eq_true] at h; rw [h]; exact Ev.now _)
      show impl_all__impl_VersionOk_1.l0 (k + 1) s _ _ = _
      rw [impl_all__impl_VersionOk_1.l0, if_pos (by omega), if_pos (by omega), if_pos (by omega), hb, id_impl, Option.bind_some, if_neg h]
theorem impl_all_dgt (s : ByteArray) (hs : s.size ≤ 1099511627776) : Ev (fun k => impl_all__impl_isDigit.f k s) ((L s).all dgt) := by
  have hsz := size_L s
  rw [← Bool.and_true ((L s).all dgt)]
  refine all_loop (L s) 0 dgt true (fun k i => impl_all__impl_isDigit.l0 k s (s.size : Int) i) ?_ ?_
  · exact Ev.step (f := fun k => some true) (fun k => by show impl_all__impl_isDigit.l0 (k + 1) s _ _ = _; rw [impl_all__impl_isDigit.l0, if_neg (by omega)]) (Ev.now _)
  · intro i r hi hr
    rw [getD_at]
    have hb : bt s (i : Int) = ((at_ (L s) i).toNat : Int) := bt_nat s i
    by_cases h : dgt (at_ (L s) i) = true
    · rw [h, Bool.true_and]
      refine Ev.step (fun k => ?_) hr
      show impl_all__impl_isDigit.l0 (k + 1) s _ _ = _
      rw [impl_all__impl_isDigit.l0, if_pos (by omega), if_pos (by omega), if_pos (by omega), hb, impl_dgt, Option.bind_some, if_pos h, wa1 i (by omega)]
    · refine Ev.step (f := fun k => some false) (fun k => ?_) (by simp only [Bool.not_eq_true] at h; rw [h]; exact Ev.now _)
      show impl_all__impl_isDigit.l0 (k + 1) s _ _ = _
      rw [impl_all__impl_isDigit.l0, if_pos (by omega), if_pos (by omega), if_pos (by omega), hb, impl_dgt, Option.bind_some, if_neg h]
theorem impl_isNumber_ev (s : ByteArray) (hs : s.size ≤ 1099511627776) : Ev (fun k => impl_isNumber.f k s) (isNum (L s)) := by
  unfold impl_isNumber.f isNum
  rw [toList_L]
  by_cases h : L s = []
  · refine ev_use (ev_pos h (Ev.now _)) ?_
    rw [h]; rfl
  · refine ev_use (ev_neg h (Ev.bind (impl_all_dgt s hs) (Ev.now _))) ?_
    have : (L s != []) = true := bne_iff_ne.2 h
    rw [this, Bool.and_true]
theorem impl_VersionOk_l1_ev (a b c : Int) (l : List ByteArray) (hl : l.length ≤ 1125899906842624) (hs : ∀ x ∈ l, x.size ≤ 1099511627776) : Ev (fun k => impl_VersionOk.l1 k l (l.length : Int) 0 a b c l) (l.all (fun p => preOk (L p)) && decide (l.length ≤ 5)) := by
  refine all_loop l ByteArray.empty (fun p => preOk (L p)) _ (fun k i => impl_VersionOk.l1 k l (l.length : Int) i a b c l) ?_ ?_
  · refine Ev.step (f := fun k => some (decide (l.length ≤ 5))) (fun k => ?_) (Ev.now _)
    show impl_VersionOk.l1 (k + 1) l _ _ a b c l = _
    rw [impl_VersionOk.l1, if_neg (by omega), len5]
  · intro i r hi hr
    have hm := hs _ (getD_mem l i ByteArray.empty hi)
    have ee : rdOf ByteArray.empty l (i : Int) = l.getD i ByteArray.empty := rfl
    refine Ev.step (f := fun k => (impl_within.f ((l.getD i ByteArray.empty).size : Int) 1 20).bind fun t320 => (if t320 = true then ((impl_all__impl_VersionOk_1.f k (l.getD i ByteArray.empty)).bind fun t321 => (if t321 = true then ((impl_isNumber.f k (l.getD i ByteArray.empty)).bind fun t322 => (if t322 = true then ((impl_ReadDec.f (l.getD i ByteArray.empty)).bind fun t323 => (if t323 < 0 then (some false) else (impl_VersionOk.l1 k l (l.length : Int) ((i + 1 : Nat) : Int) a b c l))) else (impl_VersionOk.l1 k l (l.length : Int) ((i + 1 : Nat) : Int) a b c l))) else (some false))) else (some false))) (fun k => ?_) ?_
    · show impl_VersionOk.l1 (k + 1) l _ _ a b c l = _
      rw [impl_VersionOk.l1, if_pos (by omega), if_pos (by omega), if_pos (by omega), wa1 i (by omega), ee]
    · generalize l.getD i ByteArray.empty = s at hm ⊢
      have hsz := size_L s
      refine ev_const (impl_within_eq _ _ _) ?_
      unfold preOk
      by_cases h1 : 1 ≤ (L s).length ∧ (L s).length ≤ 20
      · rw [decide_eq_true h1, Bool.true_and]
        refine ev_pos (decide_eq_true (by omega)) (Ev.bind (impl_all_id s hm) ?_)
        by_cases h2 : (L s).all idc = true
        · rw [h2, Bool.true_and]
          refine ev_pos rfl (Ev.bind (impl_isNumber_ev s hm) ?_)
          by_cases h3 : isNum (L s) = true
          · rw [h3, Bool.not_true, Bool.false_or]
            refine ev_pos rfl (ev_const (impl_ReadDec_eq s hm) ?_)
            by_cases h4 : 0 ≤ rdec (L s)
            · rw [decide_eq_true h4, Bool.true_and]; exact ev_neg (by omega) hr
            · rw [decide_eq_false h4, Bool.false_and]; exact ev_pos (by omega) (Ev.now _)
          · refine ev_neg h3 ?_
            simp only [Bool.not_eq_true] at h3; rw [h3, Bool.not_false, Bool.true_or, Bool.true_and]; exact hr
        · refine ev_neg h2 ?_
          simp only [Bool.not_eq_true] at h2; rw [h2]; exact Ev.now _
      · rw [decide_eq_false h1, Bool.false_and, Bool.and_false]
        exact ev_neg (by simp; omega) (Ev.now _)
theorem impl_VersionOk_ev (a b c : Int) (l : List ByteArray) (hl : l.length ≤ 1125899906842624) (hs : ∀ x ∈ l, x.size ≤ 1099511627776) : Ev (fun k => impl_VersionOk.f k a b c l) (verOk a b c l) := by
  have hgo : Ev (fun k => impl_VersionOk.l0 k [a, b, c] ((([a, b, c] : List Int).length : Nat) : Int) 0 a b c l) (([a, b, c] : List Int).all num9 && (l.all (fun p => preOk (L p)) && decide (l.length ≤ 5))) := by
    refine all_loop [a, b, c] 0 num9 _ (fun k i => impl_VersionOk.l0 k [a, b, c] ((([a, b, c] : List Int).length : Nat) : Int) i a b c l) ?_ ?_
    · refine Ev.step (fun k => ?_) (impl_VersionOk_l1_ev a b c l hl hs)
      show impl_VersionOk.l0 (k + 1) _ _ _ a b c l = _
      rw [impl_VersionOk.l0, if_neg (by omega)]
    · intro i r hi hr
      have ee : rd [a, b, c] (i : Int) = ([a, b, c] : List Int).getD i 0 := rfl
      have hi3 : i < 3 := hi
      refine Ev.step (f := fun k => if num9 (([a, b, c] : List Int).getD i 0) = true then impl_VersionOk.l0 k [a, b, c] ((([a, b, c] : List Int).length : Nat) : Int) ((i + 1 : Nat) : Int) a b c l else some false) (fun k => ?_) ?_
      · show impl_VersionOk.l0 (k + 1) _ _ _ a b c l = _
        rw [impl_VersionOk.l0, if_pos (by omega), if_pos (by omega), if_pos (by omega), wa1 i (by omega), ee, impl_num9, Option.bind_some]
      · by_cases h : num9 (([a, b, c] : List Int).getD i 0) = true
        · rw [h, Bool.true_and]; exact ev_pos rfl hr
        · simp only [Bool.not_eq_true] at h; rw [h]; exact ev_neg (by simp) (Ev.now _)
  refine ev_use (ev_some hgo) ?_
  unfold verOk
  simp [Bool.and_assoc]
def vtail (l : List ByteArray) : B := if l = [] then [] else 45 :: Lib.join (l.map L) [46]
def vcore (a b c : Int) : B := Lib.itoa a ++ (46 :: (Lib.itoa b ++ (46 :: Lib.itoa c)))
def vtext (a b c : Int) (l : List ByteArray) : B := if verOk a b c l = true then vcore a b c ++ vtail l else []
theorem num9_is {n : Int} (h : num9 n = true) : 0 ≤ n ∧ n ≤ 999999999 := of_decide_eq_true h
theorem verOk_is {a b c : Int} {l : List ByteArray} (h : verOk a b c l = true) : (0 ≤ a ∧ a ≤ 999999999) ∧ (0 ≤ b ∧ b ≤ 999999999) ∧ (0 ≤ c ∧ c ≤ 999999999) ∧ l.length ≤ 5 ∧ ∀ x ∈ l, preOk (L x) = true := by
  unfold verOk at h
  simp only [Bool.and_eq_true, List.all_eq_true, decide_eq_true_eq] at h
  exact ⟨num9_is h.1.1.1, num9_is h.1.1.2, num9_is h.1.2, h.2.2, h.2.1⟩
theorem preOk_len {l : B} (h : preOk l = true) : 1 ≤ l.length ∧ l.length ≤ 20 := by
  unfold preOk at h
  simp only [Bool.and_eq_true, decide_eq_true_eq] at h
  exact h.2.1
theorem itoa9 {n : Int} (h : 0 ≤ n ∧ n ≤ 999999999) : (Lib.itoa n).length ≤ 9 := by
  have e : n = ((n.toNat : Nat) : Int) := by omega
  rw [e, itoa_nat]
  exact dec_len_le 8 _ (by rw [show 8 + 1 = 9 from rfl, p9]; omega)
theorem joinTail_len : ∀ (r : List ByteArray), (∀ x ∈ r, (L x).length ≤ 20) → (Lib.joinTail [46] (r.map L)).length ≤ 21 * r.length
  | [], _ => by simp [Lib.joinTail]
  | x :: r, h => by
    have := joinTail_len r fun y hy => h y (by simp [hy])
    have hx := h x (by simp)
    unfold Lib.joinTail at *
    rw [List.map_cons, List.map_cons, List.flatten_cons, List.length_append, List.length_append, List.length_cons]
    simp at *; omega
theorem vtail_len {l : List ByteArray} (h5 : l.length ≤ 5) (h : ∀ x ∈ l, (L x).length ≤ 20) : (vtail l).length ≤ 106 := by
  unfold vtail
  cases l with
  | nil => simp
  | cons x r =>
    rw [if_neg (by simp), List.map_cons, Lib.join_cons, List.length_cons, List.length_append]
    have := joinTail_len r fun y hy => h y (by simp [hy])
    have hx := h x (by simp)
    simp at h5; omega
theorem vcore_len {a b c : Int} (ha : 0 ≤ a ∧ a ≤ 999999999) (hb : 0 ≤ b ∧ b ≤ 999999999) (hc : 0 ≤ c ∧ c ≤ 999999999) : (vcore a b c).length ≤ 29 := by
  have := itoa9 ha; have := itoa9 hb; have := itoa9 hc
  unfold vcore; simp; omega
theorem vtext_len (a b c : Int) (l : List ByteArray) : (vtext a b c l).length ≤ 135 := by
  unfold vtext
  by_cases h : verOk a b c l = true
  · obtain ⟨ha, hb, hc, h5, hl⟩ := verOk_is h
    have := vcore_len ha hb hc
    have := vtail_len h5 fun x hx => (preOk_len (hl x hx)).2
    rw [if_pos h, List.length_append]; omega
  · rw [if_neg h]; simp
theorem core_S (a b c : Int) : (((S (Lib.itoa a) ++ (⟨#[46]⟩ : ByteArray)) ++ S (Lib.itoa b)) ++ (⟨#[46]⟩ : ByteArray)) ++ S (Lib.itoa c) = S (vcore a b c) := by
  apply L_inj
  rw [L_S]
  simp only [L_append, L_S]
  show ((Lib.itoa a ++ [46]) ++ Lib.itoa b ++ [46]) ++ Lib.itoa c = _
  unfold vcore; simp
theorem one_size (c : UInt8) : (⟨#[c]⟩ : ByteArray).size = 1 := rfl
theorem put_sep (acc : B) (c : UInt8) (x : ByteArray) : (S acc ++ (⟨#[c]⟩ : ByteArray)) ++ x = S (acc ++ (c :: L x)) := by
  apply L_inj; rw [L_S, L_append, L_append, L_S]
  show (acc ++ [c]) ++ L x = _
  simp
theorem spec_VersionText_l (a b c : Int) (l : List ByteArray) (h5 : l.length ≤ 5) (h20 : ∀ x ∈ l, (L x).length ≤ 20) : ∀ d i (acc : B), i + d = l.length → 1 ≤ i → acc.length ≤ 100 + 21 * i →
    Ev (fun k => spec_VersionText.l0 k (S acc) (i : Int) a b c l) (S (acc ++ Lib.joinTail [46] ((l.drop i).map L))) := by
  intro d
  induction d with
  | zero =>
    intro i acc hi h1 ha
    rw [List.drop_of_length_le (by omega)]
    refine Ev.step (f := fun k => some (S acc)) (fun k => by rw [spec_VersionText.l0, if_neg (by omega)]) (ev_use (Ev.now _) ?_)
    simp [Lib.joinTail]
  | succ d ih =>
    intro i acc hi h1 ha
    have hlt : i < l.length := by omega
    have hm := h20 _ (getD_mem l i ByteArray.empty hlt)
    have ee : rdOf ByteArray.empty l (i : Int) = l.getD i ByteArray.empty := rfl
    rw [drop_getD l i ByteArray.empty hlt, List.map_cons]
    have e2 : Lib.joinTail [46] (L (l.getD i ByteArray.empty) :: (l.drop (i + 1)).map L) = (46 :: L (l.getD i ByteArray.empty)) ++ Lib.joinTail [46] ((l.drop (i + 1)).map L) := by
      unfold Lib.joinTail; rw [List.map_cons, List.flatten_cons]; rfl
    rw [e2, ← List.append_assoc]
    refine Ev.step (fun k => ?_) (ih (i + 1) _ (by omega) (by omega) (by rw [List.length_append, List.length_cons]; omega))
    rw [spec_VersionText.l0, if_pos (by omega), if_neg (by omega), if_pos (by rw [size_S]; omega), if_pos (by omega), ee, if_pos (by rw [ByteArray.size_append, size_S, one_size, size_L]; omega), put_sep, wa1 i (by omega)]
theorem spec_VersionText_ev (a b c : Int) (l : List ByteArray) (hl : l.length ≤ 1125899906842624) (hs : ∀ x ∈ l, x.size ≤ 1099511627776) : Ev (fun k => spec_VersionText.f k a b c l) (S (vtext a b c l)) := by
  unfold spec_VersionText.f vtext
  refine Ev.bind (spec_VersionOk_ev a b c l hl hs) ?_
  by_cases h : verOk a b c l = true
  · obtain ⟨ha, hb, hc, h5, hall⟩ := verOk_is h
    have h20 : ∀ x ∈ l, (L x).length ≤ 20 := fun x hx => (preOk_len (hall x hx)).2
    have la := itoa9 ha; have lb := itoa9 hb; have lc := itoa9 hc
    rw [if_pos h]
    refine ev_pos h (Ev.bind (spec_DecText_ev a (by omega) (by omega)) (ev_pos (by rw [size_S]; omega) (Ev.bind (spec_DecText_ev b (by omega) (by omega)) ?_)))
    refine ev_pos (by rw [ByteArray.size_append, size_S, size_S, one_size]; omega) (ev_pos (by rw [ByteArray.size_append, ByteArray.size_append, size_S, size_S, one_size]; omega) (Ev.bind (spec_DecText_ev c (by omega) (by omega)) ?_))
    refine ev_pos (by simp only [ByteArray.size_append, size_S, one_size]; omega) ?_
    rw [core_S]
    have lv := vcore_len ha hb hc
    cases l with
    | nil =>
      refine Ev.step (f := fun k => some (S (vcore a b c))) (fun k => by rw [spec_VersionText.l0, if_neg (by simp)]) (ev_use (Ev.now _) ?_)
      simp [vtail]
    | cons x r =>
      have hx := h20 x (by simp)
      have e2 : vcore a b c ++ vtail (x :: r) = (vcore a b c ++ (45 :: L x)) ++ Lib.joinTail [46] (((x :: r).drop 1).map L) := by
        unfold vtail
        rw [if_neg (by simp), List.map_cons, Lib.join_cons, List.append_assoc]; rfl
      rw [e2]
      refine Ev.step (fun k => ?_) (spec_VersionText_l a b c (x :: r) h5 h20 r.length 1 _ (by simp; omega) (by omega) (by rw [List.length_append, List.length_cons]; omega))
      have ee : rdOf ByteArray.empty (x :: r) 0 = x := rfl
      rw [spec_VersionText.l0, if_pos (by simp), if_pos rfl, if_pos (by rw [size_S]; omega), if_pos (by omega), ee, if_pos (by rw [ByteArray.size_append, size_S, one_size, size_L]; omega), put_sep, show wrap64 (0 + 1) = ((1 : Nat) : Int) from wa1 0 (by omega)]
  · rw [if_neg h]
    exact ev_neg h (Ev.now _)
theorem join_some (l : List ByteArray) (h5 : l.length ≤ 5) (h20 : ∀ x ∈ l, (L x).length ≤ 20) : strings_Join.f l (⟨#[46]⟩ : ByteArray) = some (S (Lib.join (l.map L) [46])) := by
  unfold strings_Join.f
  have e : (l.map (·.data.toList)) = l.map L := rfl
  have e2 : (⟨#[46]⟩ : ByteArray).data.toList = [46] := rfl
  rw [e, e2, if_pos]
  · rfl
  · refine ⟨by omega, ?_⟩
    cases l with
    | nil => simp [Lib.join, List.intercalate]
    | cons x r =>
      rw [List.map_cons, Lib.join_cons, List.length_append]
      have := joinTail_len r fun y hy => h20 y (by simp [hy])
      have hx := h20 x (by simp)
      simp at h5; omega
theorem impl_VersionText_ev (a b c : Int) (l : List ByteArray) (hl : l.length ≤ 1125899906842624) (hs : ∀ x ∈ l, x.size ≤ 1099511627776) : Ev (fun k => impl_VersionText.f k a b c l) (S (vtext a b c l)) := by
  unfold impl_VersionText.f vtext
  refine Ev.bind (impl_VersionOk_ev a b c l hl hs) ?_
  by_cases h : verOk a b c l = true
  · obtain ⟨ha, hb, hc, h5, hall⟩ := verOk_is h
    have h20 : ∀ x ∈ l, (L x).length ≤ 20 := fun x hx => (preOk_len (hall x hx)).2
    have la := itoa9 ha; have lb := itoa9 hb; have lc := itoa9 hc
    refine ev_pos h ?_
    rw [if_pos h]
    refine ev_const (impl_DecText_eq a (by omega) (by omega)) ?_
    refine ev_pos (by rw [size_S]; omega) (ev_const (impl_DecText_eq b (by omega) (by omega)) ?_)
    refine ev_pos (by rw [ByteArray.size_append, size_S, size_S, one_size]; omega) (ev_pos (by rw [ByteArray.size_append, ByteArray.size_append, size_S, size_S, one_size]; omega) (ev_const (impl_DecText_eq c (by omega) (by omega)) ?_))
    refine ev_pos (by simp only [ByteArray.size_append, size_S, one_size]; omega) ?_
    rw [core_S]
    have lv := vcore_len ha hb hc
    cases l with
    | nil => exact ev_use (ev_neg (by simp) (Ev.now _)) (by simp [vtail])
    | cons x r =>
      have lt := vtail_len h5 h20
      have et : vtail (x :: r) = 45 :: Lib.join ((x :: r).map L) [46] := by unfold vtail; rw [if_neg (by simp)]
      rw [et, List.length_cons] at lt
      rw [et]
      refine ev_pos (by simp only [List.length_cons]; omega) ?_
      refine ev_const (join_some _ h5 h20) ?_
      refine ev_pos (by rw [size_S]; omega) ?_
      refine ev_pos (by simp only [ByteArray.size_append, size_S, one_size]; omega) ?_
      refine ev_use (Ev.now _) ?_
      apply L_inj
      rw [L_append, L_append, L_S, L_S, L_S]; rfl
  · exact ev_use (ev_neg h (Ev.now _)) (by rw [if_neg h]; rfl)
theorem cutP_mem (c : UInt8) : ∀ (l p x : B), x ∈ cutP c p l → x.length ≤ p.length + l.length := by
  intro l
  induction l with
  | nil => intro p x h; simp only [cutP, List.mem_singleton] at h; subst h; simp
  | cons y l ih =>
    intro p x h
    unfold cutP at h
    by_cases hy : y = c
    · rw [if_pos hy, List.mem_cons] at h
      rcases h with rfl | h
      · omega
      · have := ih [] x h; simp at *; omega
    · rw [if_neg hy] at h
      have := ih _ x h; simp at *; omega
def vhead (l : B) : B := if 0 ≤ idx l 45 then l.take (idx l 45).toNat else l
def vpre (l : B) : List ByteArray := if 0 ≤ idx l 45 then (cutP 46 [] (l.drop ((idx l 45).toNat + 1))).map S else []
def vpart (l : B) (i : Nat) : Int := rdec ((cutP 46 [] (vhead l)).getD i [])
def zeroV : Int × Int × Int × List ByteArray × Bool := (0, 0, 0, [], false)
def readVer (l : B) : Int × Int × Int × List ByteArray × Bool :=
  if (cutP 46 [] (vhead l)).length = 3 ∧ vtext (vpart l 0) (vpart l 1) (vpart l 2) (vpre l) = l then (vpart l 0, vpart l 1, vpart l 2, vpre l, true) else zeroV
theorem vhead_len (l : B) : (vhead l).length ≤ l.length := by
  unfold vhead; split
  · rw [List.length_take]; omega
  · omega
theorem vpre_len (l : B) : (vpre l).length ≤ l.length + 1 := by
  unfold vpre; split
  · rw [List.length_map]; have := (cutP_len 46 (l.drop ((idx l 45).toNat + 1)) []).2; rw [List.length_drop] at this; omega
  · simp
theorem vpre_mem (l : B) : ∀ x ∈ vpre l, x.size ≤ l.length := by
  intro x hx
  unfold vpre at hx
  split at hx
  · obtain ⟨y, hy, rfl⟩ := List.mem_map.1 hx
    have := cutP_mem 46 _ [] y hy
    rw [size_S]; simp at this; omega
  · simp at hx
theorem rd_cut (q : List B) (i : Nat) : rdOf ByteArray.empty (q.map S) (i : Int) = S (q.getD i []) := by
  show (q.map S).getD i ByteArray.empty = _
  rw [List.getD_eq_getElem?_getD, List.getD_eq_getElem?_getD, List.getElem?_map]
  cases q[i]? <;> rfl
theorem getD_len (q : List B) (i n : Nat) (h : ∀ x ∈ q, x.length ≤ n) : (q.getD i []).length ≤ n := by
  rw [List.getD_eq_getElem?_getD]
  cases e : q[i]? with
  | none => simp
  | some y => exact h y (List.mem_of_getElem? e)
theorem head_part (l : B) (i : Nat) : ((cutP 46 [] (vhead l)).getD i []).length ≤ l.length :=
  getD_len _ _ _ fun x hx => by have := cutP_mem 46 _ [] x hx; have := vhead_len l; simp at *; omega
theorem vhead_nil : vhead [] = [] := rfl
theorem three_ne {l : B} (h : (cutP 46 [] (vhead l)).length = 3) : l ≠ [] := by
  rintro rfl
  rw [vhead_nil] at h
  simp [cutP] at h
theorem spec_ReadVersion_j0 (s : ByteArray) (hs : s.size ≤ 1048576) : Ev (fun k => spec_ReadVersion.j0 k s (S (vhead (L s))) 0 0 0 (vpre (L s))) (readVer (L s)) := by
  have hsz := size_L s
  have hh := vhead_len (L s)
  have hc := spec_l01Cut_ev (S (vhead (L s))) 46 (by rw [size_S]; omega)
  rw [L_S] at hc
  have hp : ∀ i, (S ((cutP 46 [] (vhead (L s))).getD i [])).size ≤ 1099511627776 := fun i => by have := head_part (L s) i; rw [size_S]; omega
  have hd : ∀ i, Ev (fun k => spec_ReadDec.f k (S ((cutP 46 [] (vhead (L s))).getD i []))) (vpart (L s) i) := fun i => by
    have := spec_ReadDec_ev _ (hp i); rw [L_S] at this; exact this
  have r0 : rdOf ByteArray.empty ((cutP 46 [] (vhead (L s))).map S) 0 = S ((cutP 46 [] (vhead (L s))).getD 0 []) := rd_cut _ 0
  have r1 : rdOf ByteArray.empty ((cutP 46 [] (vhead (L s))).map S) 1 = S ((cutP 46 [] (vhead (L s))).getD 1 []) := rd_cut _ 1
  have r2 : rdOf ByteArray.empty ((cutP 46 [] (vhead (L s))).map S) 2 = S ((cutP 46 [] (vhead (L s))).getD 2 []) := rd_cut _ 2
  refine Ev.step (fun k => by rw [spec_ReadVersion.j0]) ?_
  refine Ev.bind hc ?_
  rw [List.length_map]
  unfold readVer
  by_cases h3 : (cutP 46 [] (vhead (L s))).length = 3
  · refine ev_pos (by omega) (ev_pos (by omega) ?_)
    rw [r0]
    refine Ev.bind (hd 0) (ev_pos (by omega) ?_)
    rw [r1]
    refine Ev.bind (hd 1) (ev_pos (by omega) ?_)
    rw [r2]
    refine Ev.bind (hd 2) ?_
    have hv := vpre_len (L s); have hm := vpre_mem (L s)
    refine Ev.bind (spec_VersionText_ev _ _ _ _ (by omega) fun x hx => by have := hm x hx; omega) ?_
    rw [toList_S, toList_L]
    by_cases hv : vtext (vpart (L s) 0) (vpart (L s) 1) (vpart (L s) 2) (vpre (L s)) = L s
    · exact ev_use (ev_pos hv (Ev.now _)) (if_pos ⟨h3, hv⟩).symm
    · exact ev_use (ev_neg hv (Ev.now _)) (if_neg fun h => hv h.2).symm
  · exact ev_use (ev_neg (by omega) (Ev.now _)) (if_neg fun h => h3 h.1).symm
theorem spec_ReadVersion_ev (s : ByteArray) (hs : s.size ≤ 1048576) : Ev (fun k => spec_ReadVersion.f k s) (readVer (L s)) := by
  have hsz := size_L s
  have h := spec_ReadVersion_j0 s hs
  have hl := idx_lt (L s) 45
  have hg := idx_ge (L s) 45
  unfold spec_ReadVersion.f
  refine Ev.bind (spec_l01At_ev s 45 (by omega)) ?_
  unfold vhead vpre at h
  by_cases h0 : 0 ≤ idx (L s) 45
  · rw [if_pos h0, if_pos h0] at h
    have hw : wrap64 (idx (L s) 45 + 1) = (((idx (L s) 45).toNat + 1 : Nat) : Int) := by rw [w64 (by omega) (by omega)]; omega
    rw [hw]
    refine ev_pos h0 (ev_pos h0 (ev_pos (by omega) (ev_pos (by omega) (ev_pos (by omega) ?_))))
    have e1 : s.extract ((((idx (L s) 45).toNat + 1 : Nat) : Int)).toNat s.size = S ((L s).drop ((idx (L s) 45).toNat + 1)) := by
      apply L_inj; rw [L_extract, L_S, Int.toNat_natCast, size_L, List.take_of_length_le (by rw [List.length_drop]; omega)]
    have e2 : s.extract 0 (idx (L s) 45).toNat = S ((L s).take (idx (L s) 45).toNat) := by
      apply L_inj; rw [L_extract, L_S, List.drop_zero, Nat.sub_zero]
    have hc := spec_l01Cut_ev (S ((L s).drop ((idx (L s) 45).toNat + 1))) 46 (by rw [size_S, List.length_drop]; omega)
    rw [L_S] at hc
    rw [e1, e2]
    exact Ev.bind hc h
  · rw [if_neg h0, if_neg h0, S_L] at h
    exact ev_neg h0 h
theorem impl_cut (s : ByteArray) (hs : s.size ≤ 1048576) : strings_Cut.f s (⟨#[45]⟩ : ByteArray) = some (S (vhead (L s)), (if 0 ≤ idx (L s) 45 then S ((L s).drop ((idx (L s) 45).toNat + 1)) else ByteArray.empty), decide (0 ≤ idx (L s) 45)) := by
  unfold strings_Cut.f
  rw [if_pos (by omega)]
  have e : (⟨#[45]⟩ : ByteArray).data.toList = [45] := rfl
  have e2 : s.data.toList = L s := rfl
  rw [e, e2]
  unfold Lib.cut
  rw [Lib.index_one]
  show some (_, _, _) = _
  unfold vhead
  by_cases h : 0 ≤ idx (L s) 45
  · have h' : 0 ≤ Lib.indexByte (L s) 45 := h
    rw [if_pos h', if_pos h, if_pos h, decide_eq_true h]; rfl
  · have h' : ¬ 0 ≤ Lib.indexByte (L s) 45 := h
    rw [if_neg h', if_neg h, if_neg h, decide_eq_false h]; rfl
theorem impl_ReadVersion_ev (s : ByteArray) (hs : s.size ≤ 1048576) : Ev (fun k => impl_ReadVersion.f k s) (readVer (L s)) := by
  have hsz := size_L s
  have hh := vhead_len (L s)
  have hl := idx_lt (L s) 45
  have hp : ∀ i, (S ((cutP 46 [] (vhead (L s))).getD i [])).size ≤ 1099511627776 := fun i => by have := head_part (L s) i; rw [size_S]; omega
  have hd : ∀ i, impl_ReadDec.f (S ((cutP 46 [] (vhead (L s))).getD i [])) = some (vpart (L s) i) := fun i => by
    have := impl_ReadDec_eq _ (hp i); rw [L_S] at this; exact this
  have r0 : rdOf ByteArray.empty ((cutP 46 [] (vhead (L s))).map S) 0 = S ((cutP 46 [] (vhead (L s))).getD 0 []) := rd_cut _ 0
  have r1 : rdOf ByteArray.empty ((cutP 46 [] (vhead (L s))).map S) 1 = S ((cutP 46 [] (vhead (L s))).getD 1 []) := rd_cut _ 1
  have r2 : rdOf ByteArray.empty ((cutP 46 [] (vhead (L s))).map S) 2 = S ((cutP 46 [] (vhead (L s))).getD 2 []) := rd_cut _ 2
  have hsp := split_one (S (vhead (L s))) 46 (by rw [size_S]; omega)
  rw [L_S] at hsp
  have e46 : (⟨#[46]⟩ : ByteArray) = S [46] := rfl
  unfold impl_ReadVersion.f
  refine ev_const (impl_cut s hs) ?_
  rw [e46]
  refine ev_const hsp ?_
  rw [List.length_map]
  unfold readVer
  by_cases h3 : (cutP 46 [] (vhead (L s))).length = 3
  · have hne := three_ne h3
    refine ev_pos (by omega) (ev_pos (by omega) ?_)
    rw [r0]
    refine ev_const (hd 0) (ev_pos (by omega) ?_)
    rw [r1]
    refine ev_const (hd 1) (ev_pos (by omega) ?_)
    rw [r2]
    refine ev_const (hd 2) ?_
    have hv := vpre_len (L s); have hm := vpre_mem (L s)
    have ht := impl_VersionText_ev (vpart (L s) 0) (vpart (L s) 1) (vpart (L s) 2) (vpre (L s)) (by omega) fun x hx => by have := hm x hx; omega
    have fin : Ev (fun k => (impl_VersionText.f k (vpart (L s) 0) (vpart (L s) 1) (vpart (L s) 2) (vpre (L s))).bind fun t => if t.toList = s.toList then (if s.toList = ([] : List UInt8) then some (0, 0, 0, ([] : List ByteArray), false) else some (vpart (L s) 0, vpart (L s) 1, vpart (L s) 2, vpre (L s), true)) else some (0, 0, 0, ([] : List ByteArray), false)) (if (cutP 46 [] (vhead (L s))).length = 3 ∧ vtext (vpart (L s) 0) (vpart (L s) 1) (vpart (L s) 2) (vpre (L s)) = L s then (vpart (L s) 0, vpart (L s) 1, vpart (L s) 2, vpre (L s), true) else zeroV) := by
      refine Ev.bind ht ?_
      rw [toList_S, toList_L]
      by_cases hv : vtext (vpart (L s) 0) (vpart (L s) 1) (vpart (L s) 2) (vpre (L s)) = L s
      · exact ev_use (ev_pos hv (ev_neg hne (Ev.now _))) (if_pos ⟨h3, hv⟩).symm
      · exact ev_use (ev_neg hv (Ev.now _)) (if_neg fun h => hv h.2).symm
    by_cases h0 : 0 ≤ idx (L s) 45
    · have hc := split_one (S ((L s).drop ((idx (L s) 45).toNat + 1))) 46 (by rw [size_S, List.length_drop]; omega)
      rw [L_S] at hc
      refine ev_pos (decide_eq_true h0) ?_
      simp only [if_pos h0]
      refine ev_const hc ?_
      have ev : vpre (L s) = (cutP 46 [] ((L s).drop ((idx (L s) 45).toNat + 1))).map S := if_pos h0
      rw [ev] at fin ⊢
      exact fin
    · refine ev_neg (by simpa using h0) ?_
      have ev : vpre (L s) = [] := if_neg h0
      rw [ev] at fin ⊢
      exact fin
  · exact ev_use (ev_neg (by omega) (Ev.now _)) (if_neg fun h => h3 h.1).symm
theorem and255 (x : Int) : Go.bits .and .i64 x 255 = x % 256 := by
  have e : (BitVec.ofInt 64 x &&& BitVec.ofInt 64 255).toNat = (x % 256).toNat := by
    rw [BitVec.toNat_and, BitVec.toNat_ofInt, BitVec.toNat_ofInt]
    have e2 : ((255 : Int) % ((2 ^ 64 : Nat) : Int)).toNat = 2 ^ 8 - 1 := by decide
    rw [e2, Nat.and_two_pow_sub_one_eq_mod]
    omega
  show IntKind.i64.wrap ((BitVec.ofInt 64 x &&& BitVec.ofInt 64 255).toNat : Int) = _
  rw [e, IntKind.wrap_i64]; omega
theorem xor255 (x y : Int) : (Go.bits .xor .i64 x y) % 256 = (((x % 256).toNat ^^^ (y % 256).toNat : Nat) : Int) := by
  have hlt : (BitVec.ofInt 64 x ^^^ BitVec.ofInt 64 y).toNat < 18446744073709551616 := (BitVec.ofInt 64 x ^^^ BitVec.ofInt 64 y).isLt
  have e : (BitVec.ofInt 64 x ^^^ BitVec.ofInt 64 y).toNat % 256 = (x % 256).toNat ^^^ (y % 256).toNat := by
    rw [BitVec.toNat_xor, show (256 : Nat) = 2 ^ 8 from rfl, Nat.xor_mod_two_pow, BitVec.toNat_ofInt, BitVec.toNat_ofInt]
    congr 1 <;> omega
  show (IntKind.i64.wrap ((BitVec.ofInt 64 x ^^^ BitVec.ofInt 64 y).toNat : Int)) % 256 = _
  rw [← e, IntKind.wrap_i64]; omega
def nh (h : Int) : Int := wrap64 ((wrap64 (h * 6364136223846793005)) + 1442695040888963407)
def st (h : Int) : Nat := (h % 9007199254740992).toNat
theorem wm (n : Int) : wrap64 n % 9007199254740992 = n % 9007199254740992 := by unfold wrap64; omega
theorem st_nh (h : Int) : st (nh h) = sg (st h) := by
  have e1 : nh h % 9007199254740992 = ((h % 9007199254740992) * 6364136223846793005 + 1442695040888963407) % 9007199254740992 := by
    unfold nh
    rw [wm, Int.add_emod, wm, ← Int.add_emod, Int.add_emod, Int.mul_emod, ← Int.emod_emod_of_dvd (h) (Int.dvd_refl 9007199254740992), ← Int.mul_emod, ← Int.add_emod, Int.emod_emod_of_dvd _ (Int.dvd_refl _)]
  unfold st sg
  rw [e1]
  have h0 : 0 ≤ h % 9007199254740992 := Int.emod_nonneg _ (by decide)
  generalize h % 9007199254740992 = z at h0
  obtain ⟨n, rfl⟩ := Int.eq_ofNat_of_zero_le h0
  rw [Int.toNat_natCast]
  have e2 : (((n : Int) * 6364136223846793005 + 1442695040888963407) % 9007199254740992) = (((n * 6364136223846793005 + 1442695040888963407) % 9007199254740992 : Nat) : Int) := by omega
  rw [e2, Int.toNat_natCast]
theorem byte_bx (h : Int) : (Go.bits .and .i64 (Go.bits .xor .i64 (nh h / 8589934592) (nh h / 35184372088832)) 255) = (bx (sg (st h)) : Int) := by
  rw [and255, xor255, ← st_nh]
  unfold bx st
  congr 2 <;> omega
theorem byte_ok (l : List Int) (i h : Int) (hl : l.length ≤ 1099511627776) (h0 : 0 ≤ i) (hi : i ≤ l.length) :
    ∃ b i', spec_l01Byte.f l i h = some (b, i', nh h) ∧ 0 ≤ b ∧ b < 256 ∧ i ≤ i' ∧ i' ≤ l.length ∧ (i < l.length → i < i') ∧ (i = l.length → b = (bx (sg (st h)) : Int)) := by
  unfold spec_l01Byte.f
  by_cases hlt : i < (l.length : Int)
  · rw [if_pos hlt, if_pos h0, w64 (n := i + 1) (by omega) (by omega)]
    refine ⟨_, _, rfl, ?_, ?_, by omega, by omega, by omega, by omega⟩
    · rw [and255]; omega
    · rw [and255]; omega
  · rw [if_neg hlt]
    have hb := bx_lt (sg (st h))
    refine ⟨_, _, rfl, ?_, ?_, by omega, by omega, by omega, fun _ => byte_bx h⟩
    · rw [show (Go.bits .and .i64 (Go.bits .xor .i64 ((wrap64 ((wrap64 (h * 6364136223846793005)) + 1442695040888963407)) / 8589934592) ((wrap64 ((wrap64 (h * 6364136223846793005)) + 1442695040888963407)) / 35184372088832)) 255) = _ from byte_bx h]; omega
    · rw [show (Go.bits .and .i64 (Go.bits .xor .i64 ((wrap64 ((wrap64 (h * 6364136223846793005)) + 1442695040888963407)) / 8589934592) ((wrap64 ((wrap64 (h * 6364136223846793005)) + 1442695040888963407)) / 35184372088832)) 255) = _ from byte_bx h]; omega
theorem below_ok (l : List Int) (i h a : Int) (hl : l.length ≤ 1099511627776) (h0 : 0 ≤ i) (hi : i ≤ l.length) (ha : 1 ≤ a) (ha2 : a ≤ 256) :
    ∃ b i', spec_l01Below.f l i h a = some (b % a, i', nh h) ∧ 0 ≤ b ∧ b < 256 ∧ i ≤ i' ∧ i' ≤ l.length ∧ (i < l.length → i < i') ∧ (i = l.length → b = (bx (sg (st h)) : Int)) := by
  obtain ⟨b, i', e, b0, b1, r⟩ := byte_ok l i h hl h0 hi
  refine ⟨b, i', ?_, b0, b1, r⟩
  unfold spec_l01Below.f
  rw [if_neg (by omega), if_pos ha2, e, Option.bind_some, if_neg (by omega), Int.tmod_eq_emod_of_nonneg b0]
theorem below_any (l : List Int) (i h a : Int) (hl : l.length ≤ 1099511627776) (h0 : 0 ≤ i) (hi : i ≤ l.length) (ha2 : a ≤ 4611686018427387904) :
    ∃ r i' h', spec_l01Below.f l i h a = some (r, i', h') ∧ 0 ≤ r ∧ (0 < a → r < a) ∧ (a ≤ 0 → r = 0) ∧ 0 ≤ i' ∧ i' ≤ l.length := by
  by_cases ha : a ≤ 0
  · refine ⟨0, i, h, ?_, by omega, by omega, fun _ => rfl, h0, hi⟩
    unfold spec_l01Below.f; rw [if_pos ha]
  · by_cases hb : a ≤ 256
    · obtain ⟨b, i', e, b0, b1, r1, r2, _⟩ := below_ok l i h a hl h0 hi (by omega) hb
      exact ⟨_, _, _, e, Int.emod_nonneg _ (by omega), fun _ => Int.emod_lt_of_pos _ (by omega), by omega, by omega, r2⟩
    · obtain ⟨b1, i1, e1, p1, q1, r1, s1, _⟩ := byte_ok l i h hl h0 hi
      obtain ⟨b2, i2, e2, p2, q2, r2, s2, _⟩ := byte_ok l i1 (nh h) hl (by omega) s1
      obtain ⟨b3, i3, e3, p3, q3, r3, s3, _⟩ := byte_ok l i2 (nh (nh h)) hl (by omega) s2
      obtain ⟨b4, i4, e4, p4, q4, r4, s4, _⟩ := byte_ok l i3 (nh (nh (nh h))) hl (by omega) s3
      refine ⟨Int.tmod (wrap64 ((wrap64 ((wrap64 ((wrap64 (b1 * 16777216)) + (wrap64 (b2 * 65536)))) + (wrap64 (b3 * 256)))) + b4)) a, i4, nh (nh (nh (nh h))), ?_, ?_, ?_, by omega, by omega, s4⟩
      · unfold spec_l01Below.f
        rw [if_neg ha, if_neg hb, e1, Option.bind_some, e2, Option.bind_some, e3, Option.bind_some, e4, Option.bind_some, if_neg (by omega)]
      · rw [w64 (n := b1 * 16777216) (by omega) (by omega), w64 (n := b2 * 65536) (by omega) (by omega), w64 (n := b3 * 256) (by omega) (by omega), w64 (n := b1 * 16777216 + b2 * 65536) (by omega) (by omega), w64 (n := b1 * 16777216 + b2 * 65536 + b3 * 256) (by omega) (by omega), w64 (by omega) (by omega), Int.tmod_eq_emod_of_nonneg (by omega)]
        exact Int.emod_nonneg _ (by omega)
      · intro _
        rw [w64 (n := b1 * 16777216) (by omega) (by omega), w64 (n := b2 * 65536) (by omega) (by omega), w64 (n := b3 * 256) (by omega) (by omega), w64 (n := b1 * 16777216 + b2 * 65536) (by omega) (by omega), w64 (n := b1 * 16777216 + b2 * 65536 + b3 * 256) (by omega) (by omega), w64 (by omega) (by omega), Int.tmod_eq_emod_of_nonneg (by omega)]
        exact Int.emod_lt_of_pos _ (by omega)
theorem pick_any (l : List Int) (i h : Int) (q : List ByteArray) (hl : l.length ≤ 1099511627776) (h0 : 0 ≤ i) (hi : i ≤ l.length) (hq : 1 ≤ q.length) (hq2 : q.length ≤ 256) :
    ∃ r i' h', spec_l01Pick.f l i h q = some (r, i', h') ∧ r ∈ q ∧ 0 ≤ i' ∧ i' ≤ l.length := by
  obtain ⟨r, i', h', e, r0, r1, _, s0, s1⟩ := below_any l i h (q.length : Int) hl h0 hi (by omega)
  have hr := r1 (by omega)
  refine ⟨q.getD r.toNat ByteArray.empty, i', h', ?_, ?_, s0, s1⟩
  · unfold spec_l01Pick.f
    rw [e, Option.bind_some, if_pos r0, if_pos hr]; rfl
  · rw [List.getD_eq_getElem?_getD, List.getElem?_eq_getElem (by omega)]
    exact List.getElem_mem _
theorem once_any (l : List Int) (i h n : Int) (hl : l.length ≤ 1099511627776) (h0 : 0 ≤ i) (hi : i ≤ l.length) (hn : n ≤ 4611686018427387904) :
    ∃ r i' h', spec_l01Once.f l i h n = some (r, i', h') ∧ 0 ≤ i' ∧ i' ≤ l.length := by
  obtain ⟨r, i', h', e, _, _, _, s0, s1⟩ := below_any l i h n hl h0 hi hn
  exact ⟨_, i', h', by unfold spec_l01Once.f; rw [e]; rfl, s0, s1⟩
theorem new_any (l : List Int) (hl : l.length ≤ 1048576) : ∃ h, Ev (fun k => spec_l01New.f k l) (l, 0, h) := by
  have key : ∀ (d i : Nat) (h : Int), i + d = l.length → ∃ h', Ev (fun k => spec_l01New.l0 k l h (i : Int)) (l, 0, h') := by
    intro d
    induction d with
    | zero =>
      intro i h hi
      exact ⟨h, Ev.step (f := fun k => some (l, 0, h)) (fun k => by rw [spec_l01New.l0, if_neg (by omega)]) (Ev.now _)⟩
    | succ d ih =>
      intro i h hi
      by_cases h4 : (i : Int) < 4000
      · obtain ⟨h', e⟩ := ih (i + 1) (Go.bits .and .i64 (wrap64 ((wrap64 ((wrap64 (h * 131)) + (wrap64 (rd l (i : Int))))) + 7)) 1073741823) (by omega)
        exact ⟨h', Ev.step (fun k => by rw [spec_l01New.l0, if_pos (by omega), if_pos h4, if_pos (by omega), wa1 i (by omega)]) e⟩
      · exact ⟨h, Ev.step (f := fun k => some (l, 0, h)) (fun k => by rw [spec_l01New.l0, if_pos (by omega), if_neg h4]) (Ev.now _)⟩
  exact key l.length 0 _ (by omega)
theorem ext_size2 (s : ByteArray) (a b : Nat) : (s.extract a b).size ≤ s.size := by rw [size_L, size_L, L_extract]; simp; omega
theorem app_size2 (s t : ByteArray) : (s ++ t).size = s.size + t.size := by rw [size_L, size_L, size_L, L_append, List.length_append]
theorem pickInt_any (l : List Int) (i h : Int) (q : List Int) (hl : l.length ≤ 1099511627776) (h0 : 0 ≤ i) (hi : i ≤ l.length) (hq : 1 ≤ q.length) (hq2 : q.length ≤ 256) :
    ∃ r i' h', spec_l01PickInt.f l i h q = some (r, i', h') ∧ 0 ≤ i' ∧ i' ≤ l.length := by
  obtain ⟨r, i', h', e, r0, r1, _, s0, s1⟩ := below_any l i h (q.length : Int) hl h0 hi (by omega)
  have hr := r1 (by omega)
  refine ⟨rd q r, i', h', ?_, s0, s1⟩
  unfold spec_l01PickInt.f
  rw [e, Option.bind_some, if_pos r0, if_pos hr]
theorem bent_any2 (l : List Int) (i h : Int) (s : ByteArray) (hs : s.size ≤ 1000) (hl : l.length ≤ 1099511627776) (h0 : 0 ≤ i) (hi : i ≤ l.length) :
    ∃ t i' h', spec_l01Bent.f l i h s = some (t, i', h') ∧ t.size ≤ 3000 ∧ 0 ≤ i' ∧ i' ≤ l.length := by
  obtain ⟨r, i1, h1, e1, r0, r1, _, p0, p1⟩ := below_any l i h ((s.size : Int) + 1) hl h0 hi (by omega)
  have hr := r1 (by omega)
  obtain ⟨q, i2, h2, e2, q0, q1, _, t0, t1⟩ := below_any l i1 h1 8 hl p0 p1 (by omega)
  unfold spec_l01Bent.f
  rw [w64 (n := (s.size : Int) + 1) (by omega) (by omega), e1, Option.bind_some, e2, Option.bind_some]
  by_cases c0 : q = 0
  · rw [if_pos c0, if_pos r0, if_pos (by show r ≤ _; omega)]
    exact ⟨_, _, _, rfl, Nat.le_trans (ext_size2 _ _ _) (by omega), t0, t1⟩
  · by_cases c1 : q = 1
    · obtain ⟨u, i3, h3, e3, hu, s0, s1⟩ := pick_any l i2 h2 [(⟨#[48]⟩), (⟨#[32]⟩), (⟨#[255]⟩), (⟨#[34]⟩), (⟨#[10]⟩), (⟨#[97]⟩), (⟨#[44]⟩), (⟨#[61]⟩)] hl t0 t1 (by simp) (by simp)
      have hu1 : u.size ≤ 1 := by
        have : ∀ x ∈ ([(⟨#[48]⟩), (⟨#[32]⟩), (⟨#[255]⟩), (⟨#[34]⟩), (⟨#[10]⟩), (⟨#[97]⟩), (⟨#[44]⟩), (⟨#[61]⟩)] : List ByteArray), x.size ≤ 1 := by decide
        exact this u hu
      have x1 := ext_size2 s 0 r.toNat
      have x2 := ext_size2 s r.toNat s.size
      rw [if_neg c0, if_pos c1, if_pos r0, if_pos (by show r ≤ _; omega), e3, Option.bind_some, if_pos (by show (s.extract 0 r.toNat).size + u.size ≤ _; omega), if_pos (by show ((s.extract 0 r.toNat) ++ u).size + (s.extract r.toNat s.size).size ≤ _; rw [app_size2]; omega)]
      refine ⟨_, _, _, rfl, ?_, s0, s1⟩
      show (s.extract 0 r.toNat ++ u ++ s.extract r.toNat s.size).size ≤ _
      rw [app_size2, app_size2]; omega
    · by_cases c2 : q = 2
      · by_cases c3 : r < (s.size : Int)
        · obtain ⟨u, i3, h3, e3, hu, s0, s1⟩ := pick_any l i2 h2 [(⟨#[48]⟩), (⟨#[65]⟩), (⟨#[0]⟩), (⟨#[57]⟩), (⟨#[93]⟩), (⟨#[92]⟩)] hl t0 t1 (by simp) (by simp)
          have hu1 : u.size ≤ 1 := by
            have : ∀ x ∈ ([(⟨#[48]⟩), (⟨#[65]⟩), (⟨#[0]⟩), (⟨#[57]⟩), (⟨#[93]⟩), (⟨#[92]⟩)] : List ByteArray), x.size ≤ 1 := by decide
            exact this u hu
          have x1 := ext_size2 s 0 r.toNat
          have x2 := ext_size2 s (r + 1).toNat s.size
          rw [if_neg c0, if_neg c1, if_pos c2, if_pos c3, if_pos r0, if_pos (by show r ≤ _; omega), e3, Option.bind_some, if_pos (by show (s.extract 0 r.toNat).size + u.size ≤ _; omega), w64 (n := r + 1) (by omega) (by omega), if_pos (by omega), if_pos (by omega), if_pos (by show ((s.extract 0 r.toNat) ++ u).size + (s.extract (r + 1).toNat s.size).size ≤ _; rw [app_size2]; omega)]
          refine ⟨_, _, _, rfl, ?_, s0, s1⟩
          show (s.extract 0 r.toNat ++ u ++ s.extract (r + 1).toNat s.size).size ≤ _
          rw [app_size2, app_size2]; omega
        · rw [if_neg c0, if_neg c1, if_pos c2, if_neg c3]
          exact ⟨_, _, _, rfl, by omega, t0, t1⟩
      · rw [if_neg c0, if_neg c1, if_neg c2]
        exact ⟨_, _, _, rfl, by omega, t0, t1⟩
theorem version_j0 (l : List Int) (i h : Int) (a b c : Int) (p : List ByteArray) (hp : p.length ≤ 2) (hs : ∀ x ∈ p, x.size ≤ 21) (hl : l.length ≤ 1099511627776) (h0 : 0 ≤ i) (hi : i ≤ l.length) :
    ∃ a' b' c' p' i' h', Ev (fun k => spec_l02Version.j0 k l i h a b c p) (a', b', c', p', i', h') ∧ p'.length ≤ 6 ∧ (∀ x ∈ p', x.size ≤ 21) ∧ 0 ≤ i' ∧ i' ≤ l.length := by
  obtain ⟨r, i1, h1, e1, r0, r1, _, p0, p1⟩ := below_any l i h 24 hl h0 hi (by omega)
  by_cases c0 : r = 0
  · obtain ⟨u, i2, h2, e2, q0, q1⟩ := pickInt_any l i1 h1 [(-1), 999999999, 1000000000] hl p0 p1 (by simp) (by simp)
    refine ⟨_, _, _, _, _, _, Ev.step (f := fun _ => some (a, u, c, p, i2, h2)) (fun k => ?_) (Ev.now _), by omega, hs, q0, q1⟩
    rw [spec_l02Version.j0, e1, Option.bind_some, if_pos c0, e2, Option.bind_some]
  · by_cases c1 : r = 1
    · obtain ⟨u, i2, h2, e2, hu, q0, q1⟩ := pick_any l i1 h1 [(⟨#[]⟩ : ByteArray), (⟨#[48, 49]⟩ : ByteArray), (⟨#[97, 95, 98]⟩ : ByteArray), (⟨#[49, 48, 48, 48, 48, 48, 48, 48, 48, 48]⟩ : ByteArray), (⟨#[97, 98, 99, 100, 101, 102, 103, 104, 105, 106, 107, 108, 109, 110, 111, 112, 113, 114, 115, 116]⟩ : ByteArray), (⟨#[97, 98, 99, 100, 101, 102, 103, 104, 105, 106, 107, 108, 109, 110, 111, 112, 113, 114, 115, 116, 117]⟩ : ByteArray)] hl p0 p1 (by simp) (by simp)
      have hu1 : u.size ≤ 21 := by
        have : ∀ x ∈ [(⟨#[]⟩ : ByteArray), (⟨#[48, 49]⟩ : ByteArray), (⟨#[97, 95, 98]⟩ : ByteArray), (⟨#[49, 48, 48, 48, 48, 48, 48, 48, 48, 48]⟩ : ByteArray), (⟨#[97, 98, 99, 100, 101, 102, 103, 104, 105, 106, 107, 108, 109, 110, 111, 112, 113, 114, 115, 116]⟩ : ByteArray), (⟨#[97, 98, 99, 100, 101, 102, 103, 104, 105, 106, 107, 108, 109, 110, 111, 112, 113, 114, 115, 116, 117]⟩ : ByteArray)], x.size ≤ 21 := by decide
        exact this u hu
      refine ⟨_, _, _, _, _, _, Ev.step (f := fun _ => some (a, b, c, p ++ [u], i2, h2)) (fun k => ?_) (Ev.now _), by rw [List.length_append, List.length_singleton]; omega, ?_, q0, q1⟩
      · rw [spec_l02Version.j0, e1, Option.bind_some, if_neg c0, if_pos c1, e2, Option.bind_some, if_pos (by omega)]
      · intro x hx
        rcases List.mem_append.1 hx with hx | hx
        · exact hs x hx
        · rw [List.mem_singleton.1 hx]; exact hu1
    · by_cases c2 : r = 2
      · obtain ⟨u, i2, h2, e2, q0, q1⟩ := once_any l i1 h1 2 hl p0 p1 (by omega)
        by_cases c3 : u = true
        · refine ⟨_, _, _, _, _, _, Ev.step (f := fun _ => some (a, b, c, [(⟨#[97]⟩ : ByteArray), (⟨#[98]⟩ : ByteArray), (⟨#[99]⟩ : ByteArray), (⟨#[100]⟩ : ByteArray), (⟨#[101]⟩ : ByteArray)] ++ [(⟨#[102]⟩ : ByteArray)], i2, h2)) (fun k => ?_) (Ev.now _), by simp, by decide, q0, q1⟩
          rw [spec_l02Version.j0, e1, Option.bind_some, if_neg c0, if_neg c1, if_pos c2, Option.bind_some, e2, Option.bind_some, if_pos c3, if_pos (by simp)]
        · refine ⟨_, _, _, _, _, _, Ev.step (f := fun _ => some (a, b, c, [(⟨#[97]⟩ : ByteArray), (⟨#[98]⟩ : ByteArray), (⟨#[99]⟩ : ByteArray), (⟨#[100]⟩ : ByteArray), (⟨#[101]⟩ : ByteArray)], i2, h2)) (fun k => ?_) (Ev.now _), by simp, by decide, q0, q1⟩
          rw [spec_l02Version.j0, e1, Option.bind_some, if_neg c0, if_neg c1, if_pos c2, Option.bind_some, e2, Option.bind_some, if_neg c3]
      · refine ⟨_, _, _, _, _, _, Ev.step (f := fun _ => some (a, b, c, p, i1, h1)) (fun k => ?_) (Ev.now _), by omega, hs, p0, p1⟩
        rw [spec_l02Version.j0, e1, Option.bind_some, if_neg c0, if_neg c1, if_neg c2]
theorem version_any (l : List Int) (i h : Int) (hl : l.length ≤ 1099511627776) (h0 : 0 ≤ i) (hi : i ≤ l.length) :
    ∃ a b c p i' h', Ev (fun k => spec_l02Version.f k l i h) (a, b, c, p, i', h') ∧ p.length ≤ 6 ∧ (∀ x ∈ p, x.size ≤ 21) ∧ 0 ≤ i' ∧ i' ≤ l.length := by
  obtain ⟨a, i1, h1, e1, p0, p1⟩ := pickInt_any l i h [0, 1, 1, 2, 10] hl h0 hi (by simp) (by simp)
  obtain ⟨b, i2, h2, e2, q0, q1⟩ := pickInt_any l i1 h1 [0, 0, 1, 2, 12] hl p0 p1 (by simp) (by simp)
  obtain ⟨c, i3, h3, e3, r0, r1⟩ := pickInt_any l i2 h2 [0, 0, 1, 3, 9] hl q0 q1 (by simp) (by simp)
  obtain ⟨u, i4, h4, e4, s0, s1⟩ := once_any l i3 h3 4 hl r0 r1 (by omega)
  unfold spec_l02Version.f
  by_cases c0 : u = true
  · obtain ⟨v, i5, h5, e5, hv, t0, t1⟩ := pick_any l i4 h4 [(⟨#[114, 99]⟩ : ByteArray), (⟨#[98, 101, 116, 97]⟩ : ByteArray), (⟨#[49]⟩ : ByteArray), (⟨#[48]⟩ : ByteArray), (⟨#[120, 45, 121]⟩ : ByteArray)] hl s0 s1 (by simp) (by simp)
    have hv1 : v.size ≤ 21 := by
      have : ∀ x ∈ [(⟨#[114, 99]⟩ : ByteArray), (⟨#[98, 101, 116, 97]⟩ : ByteArray), (⟨#[49]⟩ : ByteArray), (⟨#[48]⟩ : ByteArray), (⟨#[120, 45, 121]⟩ : ByteArray)], x.size ≤ 21 := by decide
      exact this v hv
    obtain ⟨u2, i6, h6, e6, w0, w1⟩ := once_any l i5 h5 2 hl t0 t1 (by omega)
    by_cases c1 : u2 = true
    · obtain ⟨v2, i7, h7, e7, hv2, x0, x1⟩ := pick_any l i6 h6 [(⟨#[49]⟩ : ByteArray), (⟨#[50]⟩ : ByteArray), (⟨#[49, 48]⟩ : ByteArray), (⟨#[97]⟩ : ByteArray)] hl w0 w1 (by simp) (by simp)
      have hv3 : v2.size ≤ 21 := by
        have : ∀ x ∈ [(⟨#[49]⟩ : ByteArray), (⟨#[50]⟩ : ByteArray), (⟨#[49, 48]⟩ : ByteArray), (⟨#[97]⟩ : ByteArray)], x.size ≤ 21 := by decide
        exact this v2 hv2
      obtain ⟨a', b', c', p', i', h', ej, z⟩ := version_j0 l i7 h7 a b c ([v] ++ [v2]) (by simp) (fun x hx => by
        rcases List.mem_append.1 hx with hx | hx
        · rw [List.mem_singleton.1 hx]; exact hv1
        · rw [List.mem_singleton.1 hx]; exact hv3) hl x0 x1
      exact ⟨a', b', c', p', i', h', ev_const e1 (ev_const e2 (ev_const e3 (ev_const e4 (ev_pos c0 (ev_const e5 (ev_const rfl (ev_const e6 (ev_pos c1 (ev_const e7 (ev_pos (show ([v] : List ByteArray).length < 8796093022208 by simp) ej)))))))))), z⟩
    · obtain ⟨a', b', c', p', i', h', ej, z⟩ := version_j0 l i6 h6 a b c [v] (by simp) (fun x hx => by rw [List.mem_singleton.1 hx]; exact hv1) hl w0 w1
      exact ⟨a', b', c', p', i', h', ev_const e1 (ev_const e2 (ev_const e3 (ev_const e4 (ev_pos c0 (ev_const e5 (ev_const rfl (ev_const e6 (ev_neg c1 ej)))))))), z⟩
  · obtain ⟨a', b', c', p', i', h', ej, z⟩ := version_j0 l i4 h4 a b c [] (by simp) (fun x hx => by simp at hx) hl s0 s1
    exact ⟨a', b', c', p', i', h', ev_const e1 (ev_const e2 (ev_const e3 (ev_const e4 (ev_neg c0 ej)))), z⟩
theorem right_any (l : List Int) (i h : Int) (hl : l.length ≤ 1099511627776) (h0 : 0 ≤ i) (hi : i ≤ l.length) :
    ∃ t i' h', Ev (fun k => spec_l02Right.f k l i h) (t, i', h') ∧ t.size ≤ 1000 ∧ 0 ≤ i' ∧ i' ≤ l.length := by
  obtain ⟨a, b, c, p, i1, h1, e1, hp, hs, p0, p1⟩ := version_any l i h hl h0 hi
  have e2 := spec_VersionText_ev a b c p (by omega) (fun x hx => by have := hs x hx; omega)
  have hv := vtext_len a b c p
  unfold spec_l02Right.f
  by_cases c0 : (S (vtext a b c p)).toList = ([] : List UInt8)
  · exact ⟨_, i1, h1, Ev.bind e1 (Ev.bind e2 (ev_pos c0 (Ev.now _))), by decide, p0, p1⟩
  · exact ⟨_, i1, h1, Ev.bind e1 (Ev.bind e2 (ev_neg c0 (Ev.now _))), by rw [size_S]; omega, p0, p1⟩
theorem list_any (l : List Int) (i h : Int) (hl : l.length ≤ 1099511627776) (h0 : 0 ≤ i) (hi : i ≤ l.length) :
    ∃ t i' h', Ev (fun k => spec_l02List.f k l i h) (t, i', h') ∧ t.length ≤ 6 ∧ (∀ x ∈ t, x.size ≤ 3000) ∧ 0 ≤ i' ∧ i' ≤ l.length := by
  obtain ⟨n, i1, h1, e1, r0, r1, _, p0, p1⟩ := below_any l i h 6 hl h0 hi (by omega)
  have hn := r1 (by omega)
  have key : ∀ (d : Nat) (acc : List ByteArray) (i h : Int), (acc.length : Int) + d = n → (∀ x ∈ acc, x.size ≤ 3000) → 0 ≤ i → i ≤ l.length →
      ∃ t i' h', Ev (fun k => spec_l02List.l0 k acc n (acc.length : Int) l i h) (t, i', h') ∧ t.length ≤ 6 ∧ (∀ x ∈ t, x.size ≤ 3000) ∧ 0 ≤ i' ∧ i' ≤ l.length := by
    intro d
    induction d with
    | zero =>
      intro acc i h ha hs h0 hi
      exact ⟨acc, i, h, Ev.step (f := fun _ => some (acc, i, h)) (fun k => by rw [spec_l02List.l0, if_neg (by omega)]) (Ev.now _), by omega, hs, h0, hi⟩
    | succ d ih =>
      intro acc i h ha hs h0 hi
      obtain ⟨t, i2, h2, e2, ht, q0, q1⟩ := right_any l i h hl h0 hi
      obtain ⟨u, i3, h3, e3, hu, s0, s1⟩ := bent_any2 l i2 h2 t ht hl q0 q1
      have hs' : ∀ x ∈ acc ++ [u], x.size ≤ 3000 := fun x hx => by
        rcases List.mem_append.1 hx with hx | hx
        · exact hs x hx
        · rw [List.mem_singleton.1 hx]; exact hu
      obtain ⟨t', i', h', e4, z1, z2, z3, z4⟩ := ih (acc ++ [u]) i3 h3 (by rw [List.length_append, List.length_singleton]; omega) hs' s0 s1
      rw [List.length_append, List.length_singleton] at e4
      refine ⟨t', i', h', Ev.step (fun k => by rw [spec_l02List.l0, if_pos (by omega), wa1 acc.length (by omega)]) (Ev.bind e2 (ev_const e3 (ev_pos (show acc.length < 8796093022208 by omega) e4))), z1, z2, z3, z4⟩
  obtain ⟨t, i', h', e2, z⟩ := key n.toNat [] i1 h1 (by rw [List.length_nil]; omega) (fun x hx => by simp at hx) p0 p1
  refine ⟨t, i', h', ?_, z⟩
  unfold spec_l02List.f
  exact ev_const e1 e2
def vup (a b c : Int) (l : List ByteArray) (p : Int) : Int × Int × Int :=
  if p = 0 then (a + 1, 0, 0) else if p = 1 then (a, b + 1, 0) else (a, b, if l.length = 0 then c + 1 else c)
def vnext (a b c : Int) (l : List ByteArray) (p : Int) : Int × Int × Int × List ByteArray :=
  if verOk a b c l = true ∧ 0 ≤ p ∧ p ≤ 2 ∧ verOk (vup a b c l p).1 (vup a b c l p).2.1 (vup a b c l p).2.2 [] = true then ((vup a b c l p).1, (vup a b c l p).2.1, (vup a b c l p).2.2, []) else (a, b, c, l)
theorem verOk_num {a b c : Int} {l : List ByteArray} (h : verOk a b c l = true) : (0 ≤ a ∧ a ≤ 999999999) ∧ (0 ≤ b ∧ b ≤ 999999999) ∧ (0 ≤ c ∧ c ≤ 999999999) := by
  unfold verOk at h
  simp only [Bool.and_eq_true] at h
  exact ⟨of_decide_eq_true h.1.1.1, of_decide_eq_true h.1.1.2, of_decide_eq_true h.1.2⟩
theorem w1 {a : Int} (h : 0 ≤ a ∧ a ≤ 999999999) : wrap64 (a + 1) = a + 1 := w64 (by omega) (by omega)
theorem spec_ok (a b c : Int) : Ev (fun k => spec_VersionOk.f k a b c ([] : List ByteArray)) (verOk a b c []) := spec_VersionOk_ev a b c [] (by simp) (by simp)
theorem ask_ok {g : Nat → Option Bool} {ok : Bool} {x y : Int × Int × Int × List ByteArray} (h : Ev g ok) : Ev (fun k => (g k).bind fun t => if t = true then some x else some y) (if ok = true then x else y) := by
  refine Ev.bind h ?_
  by_cases e : ok = true
  · exact ev_use (ev_pos e (Ev.now _)) (if_pos e).symm
  · exact ev_use (ev_neg e (Ev.now _)) (if_neg e).symm
theorem spec_Next_ev (a b c : Int) (l : List ByteArray) (p : Int) (hl : l.length ≤ 1048576) (hs : ∀ x ∈ l, x.size ≤ 1099511627776) : Ev (fun k => spec_Next.f k a b c l p) (vnext a b c l p) := by
  unfold spec_Next.f
  refine ev_some (ev_pos (by simp only [List.length_nil]; omega) (ev_some (Ev.bind (spec_VersionOk_ev a b c l (by omega) hs) ?_)))
  rw [List.nil_append]
  unfold vnext
  by_cases h : verOk a b c l = true
  · obtain ⟨ha, hb, hc⟩ := verOk_num h
    refine ev_pos h (ev_const (spec_l01In_eq _ _ _) ?_)
    by_cases hp : 0 ≤ p ∧ p ≤ 2
    · rw [decide_eq_true hp]
      refine Ev.step (fun k => by rw [spec_Next.j0]) (ev_neg (by decide) ?_)
      unfold vup
      by_cases h0 : p = 0
      · refine ev_pos h0 (ev_use (ask_ok (by rw [w1 ha]; exact spec_ok _ _ _)) ?_)
        rw [if_pos h0, w1 ha]
        by_cases e : verOk (a + 1) 0 0 [] = true
        · rw [if_pos e, if_pos ⟨h, hp.1, hp.2, e⟩]
        · rw [if_neg e, if_neg fun z => e z.2.2.2]
      · refine ev_neg h0 ?_
        rw [if_neg h0]
        by_cases h1 : p = 1
        · refine ev_pos h1 (ev_use (ask_ok (by rw [w1 hb]; exact spec_ok _ _ _)) ?_)
          rw [if_pos h1, w1 hb]
          by_cases e : verOk a (b + 1) 0 [] = true
          · rw [if_pos e, if_pos ⟨h, hp.1, hp.2, e⟩]
          · rw [if_neg e, if_neg fun z => e z.2.2.2]
        · refine ev_neg h1 ?_
          rw [if_neg h1]
          by_cases h2 : l.length = 0
          · refine ev_pos (by omega) (ev_use (ask_ok (by rw [w1 hc]; exact spec_ok _ _ _)) ?_)
            rw [if_pos h2, w1 hc]
            by_cases e : verOk a b (c + 1) [] = true
            · rw [if_pos e, if_pos ⟨h, hp.1, hp.2, e⟩]
            · rw [if_neg e, if_neg fun z => e z.2.2.2]
          · refine ev_neg (by omega) (ev_use (ask_ok (spec_ok _ _ _)) ?_)
            rw [if_neg h2]
            by_cases e : verOk a b c [] = true
            · rw [if_pos e, if_pos ⟨h, hp.1, hp.2, e⟩]
            · rw [if_neg e, if_neg fun z => e z.2.2.2]
    · rw [decide_eq_false hp]
      refine Ev.step (fun k => by rw [spec_Next.j0]) (ev_pos (by decide) (ev_use (Ev.now _) ?_))
      rw [if_neg fun z => hp ⟨z.2.1, z.2.2.1⟩]
  · refine ev_neg h (Ev.step (fun k => by rw [spec_Next.j0]) (ev_pos rfl (ev_use (Ev.now _) ?_)))
    rw [if_neg fun z => h z.1]
theorem vnext_len (a b c : Int) (l : List ByteArray) (p : Int) : (vnext a b c l p).2.2.2.length ≤ l.length := by
  unfold vnext
  split <;> simp
end Go.Proofs.YtoidompkofomjaaGreatDoor.U

end
section
namespace Go.Proofs.YtoidompkofomjaaGreatDoor.U
open Go Go.RowKit Go.Proofs.YtoidompkofomjaaGreatDoorW.PrintWords Go.Proofs.YtoidompkofomjaaGreatDoor.G
set_option linter.unusedVariables false
def isVer (l : B) : Bool := (readVer l).2.2.2.2
def verOr (l : B) : Bool := isVer l || l == []
theorem isVer_text {l : B} (h : isVer l = true) : ∃ a b c p, vtext a b c p = l ∧ readVer l = (a, b, c, p, true) := by
  unfold isVer at h
  unfold readVer at h ⊢
  split at h
  · rename_i hc
    exact ⟨_, _, _, _, hc.2, by rw [if_pos hc]⟩
  · simp [zeroV] at h
theorem isVer_nil : isVer [] = false := by
  unfold isVer readVer
  rw [if_neg]
  · rfl
  · rintro ⟨h, _⟩; exact absurd rfl (three_ne h)
end Go.Proofs.YtoidompkofomjaaGreatDoor.U

end
section
namespace Go.Proofs.YtoidompkofomjaaGreatDoor.U
open Go Go.RowKit Go.Sort Go.Lib
set_option linter.unusedVariables false
set_option linter.unusedSimpArgs false
variable {β : Type}
def Keyed (cf : β → β → Int) (k : β → List Int) : Prop := ∀ x y, cf x y = lex (k x) (k y)
section
variable {cf : β → β → Int} {k : β → List Int}
theorem Keyed.anti (h : Keyed cf k) (x y : β) : cf x y = - cf y x := by rw [h, h]; exact lex_anti _ _
theorem Keyed.self (h : Keyed cf k) (x : β) : cf x x = 0 := by rw [h]; exact lex_self _
theorem Keyed.le (h : Keyed cf k) {x y z : β} (a : cf x y ≤ 0) (b : cf y z ≤ 0) : cf x z ≤ 0 := by rw [h] at *; exact lex_le _ _ _ a b
theorem Keyed.le_lt (h : Keyed cf k) {x y z : β} (a : cf x y ≤ 0) (b : cf y z < 0) : cf x z < 0 := by
  have c := h.le a (by omega : cf y z ≤ 0)
  by_cases e : cf x z = 0
  · have d := h.le (x := z) (y := x) (z := y) (by rw [h.anti]; omega) a
    rw [h.anti] at d; omega
  · omega
theorem Keyed.lt_le (h : Keyed cf k) {x y z : β} (a : cf x y < 0) (b : cf y z ≤ 0) : cf x z < 0 := by
  have c := h.le (by omega : cf x y ≤ 0) b
  by_cases e : cf x z = 0
  · have d := h.le (x := y) (y := z) (z := x) b (by rw [h.anti]; omega)
    rw [h.anti] at d; omega
  · omega
theorem Keyed.swo (h : Keyed cf k) : SWO (ltOf cf) where
  irrefl x := by unfold ltOf; rw [h.self]; rfl
  trans x y z a b := by
    unfold ltOf at *
    rw [decide_eq_true_iff] at *
    exact h.lt_le a (by omega)
  ntrans x y z a b := by
    unfold ltOf at *
    rw [decide_eq_false_iff_not] at *
    have a' := h.anti x y
    have b' := h.anti y z
    have c' := h.anti x z
    have := h.le (x := z) (y := y) (z := x) (by omega) (by omega)
    omega
def Strict (cf : β → β → Int) (l : List β) : Prop := l.Pairwise fun x y => cf x y < 0
theorem strict_uniq (h : Keyed cf k) : ∀ l m : List β, Strict cf l → Strict cf m → (∀ x, x ∈ l ↔ x ∈ m) → l = m
  | [], [], _, _, _ => rfl
  | [], y :: m, _, _, e => absurd ((e y).2 (by simp)) (by simp)
  | x :: l, [], _, _, e => absurd ((e x).1 (by simp)) (by simp)
  | x :: l, y :: m, hl, hm, e => by
    unfold Strict at hl hm
    rw [List.pairwise_cons] at hl hm
    have xy : x = y := by
      have h1 := (e x).1 (by simp)
      have h2 := (e y).2 (by simp)
      rw [List.mem_cons] at h1 h2
      rcases h1 with h1 | h1
      · exact h1
      · rcases h2 with h2 | h2
        · exact h2.symm
        · have a := hm.1 x h1
          have b := hl.1 y h2
          have := h.anti x y
          omega
    subst xy
    rw [strict_uniq h l m hl.2 hm.2 fun z => ?_]
    have := e z
    rw [List.mem_cons, List.mem_cons] at this
    constructor
    · intro hz
      rcases this.1 (Or.inr hz) with rfl | h1
      · have := hl.1 z hz; rw [h.self] at this; omega
      · exact h1
    · intro hz
      rcases this.2 (Or.inr hz) with rfl | h1
      · have := hm.1 z hz; rw [h.self] at this; omega
      · exact h1
variable [DecidableEq β]
def ins (cf : β → β → Int) (s : β) : List β → List β
  | [] => [s]
  | w :: l => if cf w s < 0 then w :: ins cf s l else if w = s then w :: l else s :: w :: l
theorem mem_ins (s x : β) : ∀ l : List β, x ∈ ins cf s l ↔ x = s ∨ x ∈ l
  | [] => by simp [ins]
  | w :: l => by
    rw [ins]
    by_cases h1 : cf w s < 0
    · rw [if_pos h1, List.mem_cons, mem_ins s x l, List.mem_cons]
      constructor
      · rintro (h | h | h)
        · exact Or.inr (Or.inl h)
        · exact Or.inl h
        · exact Or.inr (Or.inr h)
      · rintro (h | h | h)
        · exact Or.inr (Or.inl h)
        · exact Or.inl h
        · exact Or.inr (Or.inr h)
    · rw [if_neg h1]
      by_cases h2 : w = s
      · subst h2; rw [if_pos rfl]; simp
      · rw [if_neg h2, List.mem_cons]
theorem strict_ins (h : Keyed cf k) (s : β) : ∀ l : List β, (∀ w ∈ l, cf w s = 0 → w = s) → Strict cf l → Strict cf (ins cf s l)
  | [], _, _ => by simp [ins, Strict]
  | w :: l, hi, hl => by
    unfold Strict at hl
    rw [List.pairwise_cons] at hl
    rw [ins]
    by_cases h1 : cf w s < 0
    · rw [if_pos h1]
      refine List.pairwise_cons.2 ⟨fun x hx => ?_, strict_ins h s l (fun v hv => hi v (by simp [hv])) hl.2⟩
      rcases (mem_ins s x l).1 hx with rfl | hx
      · exact h1
      · exact hl.1 x hx
    · rw [if_neg h1]
      by_cases h2 : w = s
      · rw [if_pos h2]; exact List.pairwise_cons.2 hl
      · rw [if_neg h2]
        have h3 : cf s w < 0 := by
          have a := h.anti s w
          have : cf w s ≠ 0 := fun e => h2 (hi w (by simp) e)
          omega
        refine List.pairwise_cons.2 ⟨fun x hx => ?_, List.pairwise_cons.2 hl⟩
        rw [List.mem_cons] at hx
        rcases hx with rfl | hx
        · exact h3
        · exact h.lt_le h3 (by have := hl.1 x hx; omega)
def sorted (cf : β → β → Int) (l : List β) : List β := l.foldl (fun out s => ins cf s out) []
theorem sorted_go (h : Keyed cf k) : ∀ (l out : List β), (∀ x, x ∈ l ∨ x ∈ out → ∀ y, y ∈ l ∨ y ∈ out → cf x y = 0 → x = y) → Strict cf out → Strict cf (l.foldl (fun out s => ins cf s out) out) ∧ ∀ x, x ∈ l.foldl (fun out s => ins cf s out) out ↔ x ∈ l ∨ x ∈ out
  | [], out, _, ho => ⟨ho, fun x => by simp⟩
  | s :: l, out, hi, ho => by
    have hs := strict_ins h s out (fun w hw => hi w (Or.inr hw) s (Or.inl (by simp))) ho
    have back : ∀ x, x ∈ l ∨ x ∈ ins cf s out → x ∈ s :: l ∨ x ∈ out := fun x hx => by
      rcases hx with hx | hx
      · exact Or.inl (by simp [hx])
      · rcases (mem_ins s x out).1 hx with rfl | hx
        · exact Or.inl (by simp)
        · exact Or.inr hx
    obtain ⟨h1, h2⟩ := sorted_go h l (ins cf s out) (fun x hx y hy => hi x (back x hx) y (back y hy)) hs
    refine ⟨h1, fun x => ?_⟩
    rw [List.foldl_cons, h2 x, mem_ins, List.mem_cons]
    constructor
    · rintro (h | h | h)
      · exact Or.inl (Or.inr h)
      · exact Or.inl (Or.inl h)
      · exact Or.inr h
    · rintro ((h | h) | h)
      · exact Or.inr (Or.inl h)
      · exact Or.inl h
      · exact Or.inr (Or.inr h)
theorem sorted_is (h : Keyed cf k) (l : List β) (hi : ∀ x ∈ l, ∀ y ∈ l, cf x y = 0 → x = y) : Strict cf (sorted cf l) ∧ ∀ x, x ∈ sorted cf l ↔ x ∈ l := by
  obtain ⟨h1, h2⟩ := sorted_go h l [] (fun x hx y hy => hi x (by simpa using hx) y (by simpa using hy)) List.Pairwise.nil
  exact ⟨h1, fun x => by have := h2 x; simpa [sorted] using this⟩
variable [Inhabited β]
theorem compact_is (h : Keyed cf k) (zs : List β) (hs : ∀ i j, i < j → j < zs.length → ¬ cf zs.toArray[j]! zs.toArray[i]! < 0) (hi : ∀ x ∈ zs, ∀ y ∈ zs, cf x y = 0 → x = y) :
    Strict cf (Lib.compact zs) ∧ ∀ x, x ∈ Lib.compact zs ↔ x ∈ zs := by
  have mem : ∀ j, j < zs.length → zs.toArray[j]! ∈ zs := fun j hj => by
    rw [getElem!_pos _ j (by simpa using hj)]; simp
  have key : ∀ m, m ≤ zs.length → Strict cf (compactUpTo zs.toArray m) ∧ (∀ x, x ∈ compactUpTo zs.toArray m ↔ ∃ j, j < m ∧ zs.toArray[j]! = x) ∧ (∀ x ∈ compactUpTo zs.toArray m, cf x zs.toArray[m - 1]! ≤ 0) := by
    intro m
    induction m with
    | zero => intro _; exact ⟨List.Pairwise.nil, fun x => by simp [compactUpTo], fun x hx => by simp [compactUpTo] at hx⟩
    | succ m ih =>
      intro hm
      obtain ⟨i1, i2, i3⟩ := ih (by omega)
      rw [compactUpTo_succ, Nat.add_sub_cancel]
      have step : ∀ x, (∃ j, j < m + 1 ∧ zs.toArray[j]! = x) ↔ (∃ j, j < m ∧ zs.toArray[j]! = x) ∨ x = zs.toArray[m]! := fun x => by
        constructor
        · rintro ⟨j, hj, e⟩
          by_cases c : j = m
          · subst c; exact Or.inr e.symm
          · exact Or.inl ⟨j, by omega, e⟩
        · rintro (⟨j, hj, e⟩ | e)
          · exact ⟨j, by omega, e⟩
          · exact ⟨m, by omega, e.symm⟩
      by_cases hk : keeps zs.toArray m = true
      · have low : ∀ x ∈ compactUpTo zs.toArray m, cf x zs.toArray[m]! < 0 := by
          intro x hx
          unfold keeps at hk
          rw [decide_eq_true_iff] at hk
          rcases hk with rfl | hk
          · simp [compactUpTo] at hx
          · have hm0 : 0 < m := by
              rcases Nat.eq_zero_or_pos m with rfl | h0
              · simp [compactUpTo] at hx
              · exact h0
            have a := hs (m - 1) m (by omega) (by omega)
            have b := h.anti zs.toArray[m - 1]! zs.toArray[m]!
            have c : cf zs.toArray[m - 1]! zs.toArray[m]! ≠ 0 := fun e => hk (hi _ (mem (m - 1) (by omega)) _ (mem m (by omega)) e).symm
            exact h.le_lt (i3 x hx) (by omega)
        rw [if_pos hk]
        refine ⟨List.pairwise_append.2 ⟨i1, by simp, fun x hx y hy => ?_⟩, fun x => ?_, fun x hx => ?_⟩
        · rw [List.mem_singleton] at hy; subst hy; exact low x hx
        · rw [List.mem_append, List.mem_singleton, i2, step]
        · rw [List.mem_append, List.mem_singleton] at hx
          rcases hx with hx | rfl
          · have := low x hx; omega
          · rw [h.self]; omega
      · have hk' : keeps zs.toArray m = false := by simpa using hk
        unfold keeps at hk'
        rw [decide_eq_false_iff_not] at hk'
        have h0 : m ≠ 0 := fun e => hk' (Or.inl e)
        have e : zs.toArray[m]! = zs.toArray[m - 1]! := by
          by_cases c : zs.toArray[m]! = zs.toArray[m - 1]!
          · exact c
          · exact absurd (Or.inr c) hk'
        rw [if_neg hk, List.append_nil]
        refine ⟨i1, fun x => ?_, fun x hx => ?_⟩
        · rw [i2, step]
          constructor
          · exact Or.inl
          · rintro (h | h)
            · exact h
            · exact ⟨m - 1, by omega, by rw [h, e]⟩
        · rw [e]; exact i3 x hx
  obtain ⟨k1, k2, _⟩ := key zs.length (Nat.le_refl _)
  refine ⟨k1, fun x => ?_⟩
  unfold compact
  rw [k2]
  constructor
  · rintro ⟨j, hj, rfl⟩; exact mem j hj
  · intro hx
    obtain ⟨j, hj, e⟩ := List.getElem_of_mem hx
    exact ⟨j, hj, by rw [getElem!_pos _ j (by simpa using hj)]; simpa using e⟩
end
end Go.Proofs.YtoidompkofomjaaGreatDoor.U

end
