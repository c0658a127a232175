/- A part of the proof that the law FnExactPick answers true at every input that its row speaks of. Conditions: the row's own. -/
import Derived.Test.YtcfeihimmboghaaGreatDoorMFnExactPick0
import Derived.Test.YtcfeihimmboghaaGreatDoorKFnExactPick0
import Derived.Test.YtcfeihimmboghaaGreatDoorKFnExactPick1
import Derived.Lib.Join
import Derived.Lib.SplitLaws
import Derived.Lib.Bytealg
import Derived.Lib.IndexMore
section
namespace Go.Proofs.YtcfeihimmboghaaGreatDoor.U
open Go Go.RowKit Go.Proofs.YtcfeihimmboghaaGreatDoorW.PrintWords Go.Proofs.YtcfeihimmboghaaGreatDoor.G
set_option linter.unusedVariables false
set_option linter.unusedSimpArgs false
theorem all_loop {α : Type} (l : List α) (z : α) (p : α → Bool) (last : Bool) (g : Nat → Int → Option Bool) (hend : Ev (fun k => g k (l.length : Int)) last)
    (hstep : ∀ (i : Nat) (r : Bool), i < l.length → Ev (fun k => g k ((i + 1 : Nat) : Int)) r → Ev (fun k => g k (i : Int)) (p (l.getD i z) && r)) : Ev (fun k => g k 0) (l.all p && last) := by
  have key : ∀ d i, i + d = l.length → Ev (fun k => g k (i : Int)) ((l.drop i).all p && last) := by
    intro d
    induction d with
    | zero =>
      intro i hi
      have e : i = l.length := by omega
      subst e
      rw [List.drop_length]; exact hend
    | succ d ih =>
      intro i hi
      rw [drop_getD l i z (by omega), List.all_cons, Bool.and_assoc]
      exact hstep i _ (by omega) (ih (i + 1) (by omega))
  have := key l.length 0 (by omega)
  exact this
theorem getD_at (l : B) (i : Nat) : l.getD i 0 = at_ l i := rfl
def isNum (l : B) : Bool := l.all dgt && (l != [])
def idc (c : UInt8) : Bool := decide (97 ≤ c.toNat ∧ c.toNat ≤ 122) || decide (65 ≤ c.toNat ∧ c.toNat ≤ 90) || decide (48 ≤ c.toNat ∧ c.toNat ≤ 57) || c == 45
def preOk (l : B) : Bool := l.all idc && (decide (1 ≤ l.length ∧ l.length ≤ 20) && (!isNum l || decide (0 ≤ rdec l)))
def num9 (n : Int) : Bool := decide (0 ≤ n ∧ n ≤ 999999999)
def verOk (a b c : Int) (l : List ByteArray) : Bool := (num9 a && num9 b && num9 c) && (l.all (fun p => preOk (L p)) && decide (l.length ≤ 5))
theorem spec_dgt (c : UInt8) : spec_l01In.f (wrap64 (c.toNat : Int)) 48 57 = some (dgt c) := by
  have := byte_lt c
  rw [spec_l01In_eq, w64 (by omega) (by omega)]
  congr 1
  unfold dgt
  by_cases h : 48 ≤ c.toNat ∧ c.toNat ≤ 57
  · rw [decide_eq_true h, decide_eq_true (by omega)]
  · rw [decide_eq_false h, decide_eq_false (by omega)]
theorem spec_l02Digits_ev (s : ByteArray) (hs : s.size ≤ 1099511627776) : Ev (fun k => spec_l02Digits.f k s) (isNum (L s)) := by
  have hsz := size_L s
  refine all_loop (L s) 0 dgt ((L s) != []) (fun k i => spec_l02Digits.l0 k s i) ?_ ?_
  · exact Ev.step (f := fun k => some (s.toList != ([] : List UInt8))) (fun k => by show spec_l02Digits.l0 (k + 1) s _ = _; rw [spec_l02Digits.l0, if_neg (by omega)]) (by rw [toList_L]; exact Ev.now _)
  · intro i r hi hr
    rw [getD_at]
    have hb : bt s (i : Int) = ((at_ (L s) i).toNat : Int) := bt_nat s i
    by_cases h : dgt (at_ (L s) i) = true
    · rw [h, Bool.true_and]
      refine Ev.step (fun k => ?_) hr
      show spec_l02Digits.l0 (k + 1) s _ = _
      rw [spec_l02Digits.l0, if_pos (by omega), if_pos (by omega), hb, spec_dgt, Option.bind_some, if_pos h, wa1 i (by omega)]
    · refine Ev.step (f := fun k => some false) (fun k => ?_) (by simp only [Bool.not_eq_true] at h; rw [h]; exact Ev.now _)
      show spec_l02Digits.l0 (k + 1) s _ = _
      rw [spec_l02Digits.l0, if_pos (by omega), if_pos (by omega), hb, spec_dgt, Option.bind_some, if_neg h]
theorem id_spec (c : UInt8) : ∃ a b, spec_l01Letter.f (c.toNat : Int) = some a ∧ spec_l01Great.f (c.toNat : Int) = some b ∧ idc c = (a || b || decide ((c.toNat : Int) = 45)) := by
  have ha : ∀ c : UInt8, spec_l01Letter.f (c.toNat : Int) = some (decide (97 ≤ c.toNat ∧ c.toNat ≤ 122) || decide (48 ≤ c.toNat ∧ c.toNat ≤ 57)) := by refine all_bytes ?_; decide +kernel
  have hb : ∀ c : UInt8, spec_l01Great.f (c.toNat : Int) = some (decide (65 ≤ c.toNat ∧ c.toNat ≤ 90)) := by refine all_bytes ?_; decide +kernel
  refine ⟨_, _, ha c, hb c, ?_⟩
  revert c; refine all_bytes ?_; decide +kernel
theorem spec_id {α : Type} (c : UInt8) (x : Option α) (y : Option α) : ((spec_l01Letter.f (c.toNat : Int)).bind fun t289 => (if t289 = true then x else ((spec_l01Great.f (c.toNat : Int)).bind fun t290 => (if t290 = true then x else (if (c.toNat : Int) = 45 then x else y))))) = if idc c = true then x else y := by
  obtain ⟨a, b, ha, hb, hc⟩ := id_spec c
  rw [ha, hb, hc, Option.bind_some, Option.bind_some]
  cases a <;> cases b <;> simp
theorem spec_l02Pre_ev (s : ByteArray) (hs : s.size ≤ 1099511627776) : Ev (fun k => spec_l02Pre.f k s) (preOk (L s)) := by
  have hsz := size_L s
  have hr := rdec_range (L s)
  refine all_loop (L s) 0 idc _ (fun k i => spec_l02Pre.l0 k s i) ?_ ?_
  · refine Ev.step (f := fun k => (spec_l01In.f (s.size : Int) 1 20).bind fun t286 => (if t286 = true then ((spec_l02Digits.f k s).bind fun t287 => (if t287 = true then ((spec_ReadDec.f k s).bind fun t288 => (some (decide (t288 ≥ 0)))) else (some true))) else (some false))) (fun k => by show spec_l02Pre.l0 (k + 1) s _ = _; rw [spec_l02Pre.l0, if_neg (by omega)]) ?_
    refine ev_const (spec_l01In_eq _ _ _) ?_
    by_cases h1 : 1 ≤ (L s).length ∧ (L s).length ≤ 20
    · rw [decide_eq_true h1, Bool.true_and]
      refine ev_pos (decide_eq_true (by omega)) (Ev.bind (spec_l02Digits_ev s hs) ?_)
      by_cases h2 : isNum (L s) = true
      · rw [h2, Bool.not_true, Bool.false_or]
        exact ev_pos rfl (Ev.bind (spec_ReadDec_ev s hs) (Ev.now _))
      · refine ev_use (ev_neg h2 (Ev.now _)) ?_
        simp only [Bool.not_eq_true] at h2; rw [h2]; rfl
    · rw [decide_eq_false h1]
      exact ev_neg (by simp; omega) (Ev.now _)
  · intro i r hi hr
    rw [getD_at]
    have hb : bt s (i : Int) = ((at_ (L s) i).toNat : Int) := bt_nat s i
    by_cases h : idc (at_ (L s) i) = true
    · rw [h, Bool.true_and]
      refine Ev.step (fun k => ?_) hr
      show spec_l02Pre.l0 (k + 1) s _ = _
      rw [spec_l02Pre.l0, if_pos (by omega), if_pos (by omega), hb, spec_id, if_pos h, wa1 i (by omega)]
    · refine Ev.step (f := fun k => some false) (fun k => ?_) (by simp only [Bool.not_eq_true] at h; rw [h]; exact Ev.now _)
      show spec_l02Pre.l0 (k + 1) s _ = _
      rw [spec_l02Pre.l0, if_pos (by omega), if_pos (by omega), hb, spec_id, if_neg h]
theorem spec_num9 (n : Int) : spec_l01In.f n 0 999999999 = some (num9 n) := spec_l01In_eq _ _ _
theorem impl_num9 (n : Int) : impl_within.f n 0 999999999 = some (num9 n) := impl_within_eq _ _ _
theorem len5 (n : Nat) : decide ((n : Int) ≤ 5) = decide (n ≤ 5) := by
  by_cases h : n ≤ 5
  · rw [decide_eq_true h, decide_eq_true (by omega)]
  · rw [decide_eq_false h, decide_eq_false (by omega)]
theorem spec_VersionOk_ev (a b c : Int) (l : List ByteArray) (hl : l.length ≤ 1125899906842624) (hs : ∀ x ∈ l, x.size ≤ 1099511627776) : Ev (fun k => spec_VersionOk.f k a b c l) (verOk a b c l) := by
  have hgo : Ev (fun k => spec_VersionOk.f k a b c l) (l.all (fun p => preOk (L p)) && (num9 a && (num9 b && (num9 c && decide (l.length ≤ 5))))) := by
    refine all_loop l ByteArray.empty (fun p => preOk (L p)) _ (fun k i => spec_VersionOk.l0 k i a b c l) ?_ ?_
    · refine Ev.step (f := fun k => some (num9 a && (num9 b && (num9 c && decide (l.length ≤ 5))))) (fun k => ?_) (Ev.now _)
      show spec_VersionOk.l0 (k + 1) _ a b c l = _
      rw [spec_VersionOk.l0, if_neg (by omega), spec_num9, spec_num9, spec_num9, len5]
      cases num9 a <;> cases num9 b <;> cases num9 c <;> rfl
    · intro i r hi hr
      have hx := spec_l02Pre_ev (l.getD i ByteArray.empty) (hs _ (getD_mem l i _ hi))
      refine Ev.step (f := fun k => (spec_l02Pre.f k (l.getD i ByteArray.empty)).bind fun t => if t = true then spec_VersionOk.l0 k ((i + 1 : Nat) : Int) a b c l else some false) (fun k => ?_) (Ev.bind hx ?_)
      · show spec_VersionOk.l0 (k + 1) _ a b c l = _
        rw [spec_VersionOk.l0, if_pos (by omega), if_pos (by omega), wa1 i (by omega)]; rfl
      · by_cases h : preOk (L (l.getD i ByteArray.empty)) = true
        · rw [h, Bool.true_and]; exact ev_pos rfl hr
        · simp only [Bool.not_eq_true] at h; rw [h]; exact ev_neg (by simp) (Ev.now _)
  refine ev_use hgo ?_
  unfold verOk
  cases num9 a <;> cases num9 b <;> cases num9 c <;> simp
theorem id_impl (c : UInt8) : impl_VersionOk_1.f (c.toNat : Int) = some (idc c) := by
  revert c; refine all_bytes ?_; decide +kernel
theorem impl_dgt (c : UInt8) : impl_isDigit.f (c.toNat : Int) = some (dgt c) := by
  revert c; refine all_bytes ?_; decide +kernel
theorem impl_all_id (s : ByteArray) (hs : s.size ≤ 1099511627776) : Ev (fun k => impl_all__impl_VersionOk_1.f k s) ((L s).all idc) := by
  have hsz := size_L s
  rw [← Bool.and_true ((L s).all idc)]
  refine all_loop (L s) 0 idc true (fun k i => impl_all__impl_VersionOk_1.l0 k s (s.size : Int) i) ?_ ?_
  · exact Ev.step (f := fun k => some true) (fun k => by show impl_all__impl_VersionOk_1.l0 (k + 1) s _ _ = _; rw [impl_all__impl_VersionOk_1.l0, if_neg (by omega)]) (Ev.now _)
  · intro i r hi hr
    rw [getD_at]
    have hb : bt s (i : Int) = ((at_ (L s) i).toNat : Int) := bt_nat s i
    by_cases h : idc (at_ (L s) i) = true
    · rw [h, Bool.true_and]
      refine Ev.step (fun k => ?_) hr
      show impl_all__impl_VersionOk_1.l0 (k + 1) s _ _ = _
      rw [impl_all__impl_VersionOk_1.l0, if_pos (by omega), if_pos (by omega), if_pos (by omega), hb, id_impl, Option.bind_some, if_pos h, wa1 i (by omega)]
    · refine Ev.step (f := fun k => some false) (fun k => ?_) (by simp only [Bool.not_eq_true] at h; rw [h]; exact Ev.now _)
      show impl_all__impl_VersionOk_1.l0 (k + 1) s _ _ = _
      rw [impl_all__impl_VersionOk_1.l0, if_pos (by omega), if_pos (by omega), if_pos (by omega), hb, id_impl, Option.bind_some, if_neg h]
theorem impl_all_dgt (s : ByteArray) (hs : s.size ≤ 1099511627776) : Ev (fun k => impl_all__impl_isDigit.f k s) ((L s).all dgt) := by
  have hsz := size_L s
  rw [← Bool.and_true ((L s).all dgt)]
  refine all_loop (L s) 0 dgt true (fun k i => impl_all__impl_isDigit.l0 k s (s.size : Int) i) ?_ ?_
  · exact Ev.step (f := fun k => some true) (fun k => by show impl_all__impl_isDigit.l0 (k + 1) s _ _ = _; rw [impl_all__impl_isDigit.l0, if_neg (by omega)]) (Ev.now _)
  · intro i r hi hr
    rw [getD_at]
    have hb : bt s (i : Int) = ((at_ (L s) i).toNat : Int) := bt_nat s i
    by_cases h : dgt (at_ (L s) i) = true
    · rw [h, Bool.true_and]
      refine Ev.step (fun k => ?_) hr
      show impl_all__impl_isDigit.l0 (k + 1) s _ _ = _
      rw [impl_all__impl_isDigit.l0, if_pos (by omega), if_pos (by omega), if_pos (by omega), hb, impl_dgt, Option.bind_some, if_pos h, wa1 i (by omega)]
    · refine Ev.step (f := fun k => some false) (fun k => ?_) (by simp only [Bool.not_eq_true] at h; rw [h]; exact Ev.now _)
      show impl_all__impl_isDigit.l0 (k + 1) s _ _ = _
      rw [impl_all__impl_isDigit.l0, if_pos (by omega), if_pos (by omega), if_pos (by omega), hb, impl_dgt, Option.bind_some, if_neg h]
theorem impl_isNumber_ev (s : ByteArray) (hs : s.size ≤ 1099511627776) : Ev (fun k => impl_isNumber.f k s) (isNum (L s)) := by
  unfold impl_isNumber.f isNum
  rw [toList_L]
  by_cases h : L s = []
  · refine ev_use (ev_pos h (Ev.now _)) ?_
    rw [h]; rfl
  · refine ev_use (ev_neg h (Ev.bind (impl_all_dgt s hs) (Ev.now _))) ?_
    have : (L s != []) = true := bne_iff_ne.2 h
    rw [this, Bool.and_true]
theorem impl_VersionOk_l1_ev (a b c : Int) (l : List ByteArray) (hl : l.length ≤ 1125899906842624) (hs : ∀ x ∈ l, x.size ≤ 1099511627776) : Ev (fun k => impl_VersionOk.l1 k l (l.length : Int) 0 a b c l) (l.all (fun p => preOk (L p)) && decide (l.length ≤ 5)) := by
  refine all_loop l ByteArray.empty (fun p => preOk (L p)) _ (fun k i => impl_VersionOk.l1 k l (l.length : Int) i a b c l) ?_ ?_
  · refine Ev.step (f := fun k => some (decide (l.length ≤ 5))) (fun k => ?_) (Ev.now _)
    show impl_VersionOk.l1 (k + 1) l _ _ a b c l = _
    rw [impl_VersionOk.l1, if_neg (by omega), len5]
  · intro i r hi hr
    have hm := hs _ (getD_mem l i ByteArray.empty hi)
    have ee : rdOf ByteArray.empty l (i : Int) = l.getD i ByteArray.empty := rfl
    refine Ev.step (f := fun k => (impl_within.f ((l.getD i ByteArray.empty).size : Int) 1 20).bind fun t320 => (if t320 = true then ((impl_all__impl_VersionOk_1.f k (l.getD i ByteArray.empty)).bind fun t321 => (if t321 = true then ((impl_isNumber.f k (l.getD i ByteArray.empty)).bind fun t322 => (if t322 = true then ((impl_ReadDec.f (l.getD i ByteArray.empty)).bind fun t323 => (if t323 < 0 then (some false) else (impl_VersionOk.l1 k l (l.length : Int) ((i + 1 : Nat) : Int) a b c l))) else (impl_VersionOk.l1 k l (l.length : Int) ((i + 1 : Nat) : Int) a b c l))) else (some false))) else (some false))) (fun k => ?_) ?_
    · show impl_VersionOk.l1 (k + 1) l _ _ a b c l = _
      rw [impl_VersionOk.l1, if_pos (by omega), if_pos (by omega), if_pos (by omega), wa1 i (by omega), ee]
    · generalize l.getD i ByteArray.empty = s at hm ⊢
      have hsz := size_L s
      refine ev_const (impl_within_eq _ _ _) ?_
      unfold preOk
      by_cases h1 : 1 ≤ (L s).length ∧ (L s).length ≤ 20
      · rw [decide_eq_true h1, Bool.true_and]
        refine ev_pos (decide_eq_true (by omega)) (Ev.bind (impl_all_id s hm) ?_)
        by_cases h2 : (L s).all idc = true
        · rw [h2, Bool.true_and]
          refine ev_pos rfl (Ev.bind (impl_isNumber_ev s hm) ?_)
          by_cases h3 : isNum (L s) = true
          · rw [h3, Bool.not_true, Bool.false_or]
            refine ev_pos rfl (ev_const (impl_ReadDec_eq s hm) ?_)
            by_cases h4 : 0 ≤ rdec (L s)
            · rw [decide_eq_true h4, Bool.true_and]; exact ev_neg (by omega) hr
            · rw [decide_eq_false h4, Bool.false_and]; exact ev_pos (by omega) (Ev.now _)
          · refine ev_neg h3 ?_
            simp only [Bool.not_eq_true] at h3; rw [h3, Bool.not_false, Bool.true_or, Bool.true_and]; exact hr
        · refine ev_neg h2 ?_
          simp only [Bool.not_eq_true] at h2; rw [h2]; exact Ev.now _
      · rw [decide_eq_false h1, Bool.false_and, Bool.and_false]
        exact ev_neg (by simp; omega) (Ev.now _)
theorem impl_VersionOk_ev (a b c : Int) (l : List ByteArray) (hl : l.length ≤ 1125899906842624) (hs : ∀ x ∈ l, x.size ≤ 1099511627776) : Ev (fun k => impl_VersionOk.f k a b c l) (verOk a b c l) := by
  have hgo : Ev (fun k => impl_VersionOk.l0 k [a, b, c] ((([a, b, c] : List Int).length : Nat) : Int) 0 a b c l) (([a, b, c] : List Int).all num9 && (l.all (fun p => preOk (L p)) && decide (l.length ≤ 5))) := by
    refine all_loop [a, b, c] 0 num9 _ (fun k i => impl_VersionOk.l0 k [a, b, c] ((([a, b, c] : List Int).length : Nat) : Int) i a b c l) ?_ ?_
    · refine Ev.step (fun k => ?_) (impl_VersionOk_l1_ev a b c l hl hs)
      show impl_VersionOk.l0 (k + 1) _ _ _ a b c l = _
      rw [impl_VersionOk.l0, if_neg (by omega)]
    · intro i r hi hr
      have ee : rd [a, b, c] (i : Int) = ([a, b, c] : List Int).getD i 0 := rfl
      have hi3 : i < 3 := hi
      refine Ev.step (f := fun k => if num9 (([a, b, c] : List Int).getD i 0) = true then impl_VersionOk.l0 k [a, b, c] ((([a, b, c] : List Int).length : Nat) : Int) ((i + 1 : Nat) : Int) a b c l else some false) (fun k => ?_) ?_
      · show impl_VersionOk.l0 (k + 1) _ _ _ a b c l = _
        rw [impl_VersionOk.l0, if_pos (by omega), if_pos (by omega), if_pos (by omega), wa1 i (by omega), ee, impl_num9, Option.bind_some]
      · by_cases h : num9 (([a, b, c] : List Int).getD i 0) = true
        · rw [h, Bool.true_and]; exact ev_pos rfl hr
        · simp only [Bool.not_eq_true] at h; rw [h]; exact ev_neg (by simp) (Ev.now _)
  refine ev_use (ev_some hgo) ?_
  unfold verOk
  simp [Bool.and_assoc]
def vtail (l : List ByteArray) : B := if l = [] then [] else 45 :: Lib.join (l.map L) [46]
def vcore (a b c : Int) : B := Lib.itoa a ++ (46 :: (Lib.itoa b ++ (46 :: Lib.itoa c)))
def vtext (a b c : Int) (l : List ByteArray) : B := if verOk a b c l = true then vcore a b c ++ vtail l else []
theorem num9_is {n : Int} (h : num9 n = true) : 0 ≤ n ∧ n ≤ 999999999 := of_decide_eq_true h
theorem verOk_is {a b c : Int} {l : List ByteArray} (h : verOk a b c l = true) : (0 ≤ a ∧ a ≤ 999999999) ∧ (0 ≤ b ∧ b ≤ 999999999) ∧ (0 ≤ c ∧ c ≤ 999999999) ∧ l.length ≤ 5 ∧ ∀ x ∈ l, preOk (L x) = true := by
  unfold verOk at h
  simp only [Bool.and_eq_true, List.all_eq_true, decide_eq_true_eq] at h
  exact ⟨num9_is h.1.1.1, num9_is h.1.1.2, num9_is h.1.2, h.2.2, h.2.1⟩
theorem preOk_len {l : B} (h : preOk l = true) : 1 ≤ l.length ∧ l.length ≤ 20 := by
  unfold preOk at h
  simp only [Bool.and_eq_true, decide_eq_true_eq] at h
  exact h.2.1
theorem itoa9 {n : Int} (h : 0 ≤ n ∧ n ≤ 999999999) : (Lib.itoa n).length ≤ 9 := by
  have e : n = ((n.toNat : Nat) : Int) := by omega
  rw [e, itoa_nat]
  exact dec_len_le 8 _ (by rw [show 8 + 1 = 9 from rfl, p9]; omega)
theorem joinTail_len : ∀ (r : List ByteArray), (∀ x ∈ r, (L x).length ≤ 20) → (Lib.joinTail [46] (r.map L)).length ≤ 21 * r.length
  | [], _ => by simp [Lib.joinTail]
  | x :: r, h => by
    have := joinTail_len r fun y hy => h y (by simp [hy])
    have hx := h x (by simp)
    unfold Lib.joinTail at *
    rw [List.map_cons, List.map_cons, List.flatten_cons, List.length_append, List.length_append, List.length_cons]
    simp at *; omega
theorem vtail_len {l : List ByteArray} (h5 : l.length ≤ 5) (h : ∀ x ∈ l, (L x).length ≤ 20) : (vtail l).length ≤ 106 := by
  unfold vtail
  cases l with
  | nil => simp
  | cons x r =>
    rw [if_neg (by simp), List.map_cons, Lib.join_cons, List.length_cons, List.length_append]
    have := joinTail_len r fun y hy => h y (by simp [hy])
    have hx := h x (by simp)
    simp at h5; omega
theorem vcore_len {a b c : Int} (ha : 0 ≤ a ∧ a ≤ 999999999) (hb : 0 ≤ b ∧ b ≤ 999999999) (hc : 0 ≤ c ∧ c ≤ 999999999) : (vcore a b c).length ≤ 29 := by
  have := itoa9 ha; have := itoa9 hb; have := itoa9 hc
  unfold vcore; simp; omega
theorem vtext_len (a b c : Int) (l : List ByteArray) : (vtext a b c l).length ≤ 135 := by
  unfold vtext
  by_cases h : verOk a b c l = true
  · obtain ⟨ha, hb, hc, h5, hl⟩ := verOk_is h
    have := vcore_len ha hb hc
    have := vtail_len h5 fun x hx => (preOk_len (hl x hx)).2
    rw [if_pos h, List.length_append]; omega
  · rw [if_neg h]; simp
theorem core_S (a b c : Int) : (((S (Lib.itoa a) ++ (⟨#[46]⟩ : ByteArray)) ++ S (Lib.itoa b)) ++ (⟨#[46]⟩ : ByteArray)) ++ S (Lib.itoa c) = S (vcore a b c) := by
  apply L_inj
  rw [L_S]
  simp only [L_append, L_S]
  show ((Lib.itoa a ++ [46]) ++ Lib.itoa b ++ [46]) ++ Lib.itoa c = _
  unfold vcore; simp
theorem one_size (c : UInt8) : (⟨#[c]⟩ : ByteArray).size = 1 := rfl
theorem put_sep (acc : B) (c : UInt8) (x : ByteArray) : (S acc ++ (⟨#[c]⟩ : ByteArray)) ++ x = S (acc ++ (c :: L x)) := by
  apply L_inj; rw [L_S, L_append, L_append, L_S]
  show (acc ++ [c]) ++ L x = _
  simp
theorem spec_VersionText_l (a b c : Int) (l : List ByteArray) (h5 : l.length ≤ 5) (h20 : ∀ x ∈ l, (L x).length ≤ 20) : ∀ d i (acc : B), i + d = l.length → 1 ≤ i → acc.length ≤ 100 + 21 * i →
    Ev (fun k => spec_VersionText.l0 k (S acc) (i : Int) a b c l) (S (acc ++ Lib.joinTail [46] ((l.drop i).map L))) := by
  intro d
  induction d with
  | zero =>
    intro i acc hi h1 ha
    rw [List.drop_of_length_le (by omega)]
    refine Ev.step (f := fun k => some (S acc)) (fun k => by rw [spec_VersionText.l0, if_neg (by omega)]) (ev_use (Ev.now _) ?_)
    simp [Lib.joinTail]
  | succ d ih =>
    intro i acc hi h1 ha
    have hlt : i < l.length := by omega
    have hm := h20 _ (getD_mem l i ByteArray.empty hlt)
    have ee : rdOf ByteArray.empty l (i : Int) = l.getD i ByteArray.empty := rfl
    rw [drop_getD l i ByteArray.empty hlt, List.map_cons]
    have e2 : Lib.joinTail [46] (L (l.getD i ByteArray.empty) :: (l.drop (i + 1)).map L) = (46 :: L (l.getD i ByteArray.empty)) ++ Lib.joinTail [46] ((l.drop (i + 1)).map L) := by
      unfold Lib.joinTail; rw [List.map_cons, List.flatten_cons]; rfl
    rw [e2, ← List.append_assoc]
    refine Ev.step (fun k => ?_) (ih (i + 1) _ (by omega) (by omega) (by rw [List.length_append, List.length_cons]; omega))
    rw [spec_VersionText.l0, if_pos (by omega), if_neg (by omega), if_pos (by rw [size_S]; omega), if_pos (by omega), ee, if_pos (by rw [ByteArray.size_append, size_S, one_size, size_L]; omega), put_sep, wa1 i (by omega)]
theorem spec_VersionText_ev (a b c : Int) (l : List ByteArray) (hl : l.length ≤ 1125899906842624) (hs : ∀ x ∈ l, x.size ≤ 1099511627776) : Ev (fun k => spec_VersionText.f k a b c l) (S (vtext a b c l)) := by
  unfold spec_VersionText.f vtext
  refine Ev.bind (spec_VersionOk_ev a b c l hl hs) ?_
  by_cases h : verOk a b c l = true
  · obtain ⟨ha, hb, hc, h5, hall⟩ := verOk_is h
    have h20 : ∀ x ∈ l, (L x).length ≤ 20 := fun x hx => (preOk_len (hall x hx)).2
    have la := itoa9 ha; have lb := itoa9 hb; have lc := itoa9 hc
    rw [if_pos h]
    refine ev_pos h (Ev.bind (spec_DecText_ev a (by omega) (by omega)) (ev_pos (by rw [size_S]; omega) (Ev.bind (spec_DecText_ev b (by omega) (by omega)) ?_)))
    refine ev_pos (by rw [ByteArray.size_append, size_S, size_S, one_size]; omega) (ev_pos (by rw [ByteArray.size_append, ByteArray.size_append, size_S, size_S, one_size]; omega) (Ev.bind (spec_DecText_ev c (by omega) (by omega)) ?_))
    refine ev_pos (by simp only [ByteArray.size_append, size_S, one_size]; omega) ?_
    rw [core_S]
    have lv := vcore_len ha hb hc
    cases l with
    | nil =>
      refine Ev.step (f := fun k => some (S (vcore a b c))) (fun k => by rw [spec_VersionText.l0, if_neg (by simp)]) (ev_use (Ev.now _) ?_)
      simp [vtail]
    | cons x r =>
      have hx := h20 x (by simp)
      have e2 : vcore a b c ++ vtail (x :: r) = (vcore a b c ++ (45 :: L x)) ++ Lib.joinTail [46] (((x :: r).drop 1).map L) := by
        unfold vtail
        rw [if_neg (by simp), List.map_cons, Lib.join_cons, List.append_assoc]; rfl
      rw [e2]
      refine Ev.step (fun k => ?_) (spec_VersionText_l a b c (x :: r) h5 h20 r.length 1 _ (by simp; omega) (by omega) (by rw [List.length_append, List.length_cons]; omega))
      have ee : rdOf ByteArray.empty (x :: r) 0 = x := rfl
      rw [spec_VersionText.l0, if_pos (by simp), if_pos rfl, if_pos (by rw [size_S]; omega), if_pos (by omega), ee, if_pos (by rw [ByteArray.size_append, size_S, one_size, size_L]; omega), put_sep, show wrap64 (0 + 1) = ((1 : Nat) : Int) from wa1 0 (by omega)]
  · rw [if_neg h]
    exact ev_neg h (Ev.now _)
theorem join_some (l : List ByteArray) (h5 : l.length ≤ 5) (h20 : ∀ x ∈ l, (L x).length ≤ 20) : strings_Join.f l (⟨#[46]⟩ : ByteArray) = some (S (Lib.join (l.map L) [46])) := by
  unfold strings_Join.f
  have e : (l.map (·.data.toList)) = l.map L := rfl
  have e2 : (⟨#[46]⟩ : ByteArray).data.toList = [46] := rfl
  rw [e, e2, if_pos]
  · rfl
  · refine ⟨by omega, ?_⟩
    cases l with
    | nil => simp [Lib.join, List.intercalate]
    | cons x r =>
      rw [List.map_cons, Lib.join_cons, List.length_append]
      have := joinTail_len r fun y hy => h20 y (by simp [hy])
      have hx := h20 x (by simp)
      simp at h5; omega
theorem impl_VersionText_ev (a b c : Int) (l : List ByteArray) (hl : l.length ≤ 1125899906842624) (hs : ∀ x ∈ l, x.size ≤ 1099511627776) : Ev (fun k => impl_VersionText.f k a b c l) (S (vtext a b c l)) := by
  unfold impl_VersionText.f vtext
  refine Ev.bind (impl_VersionOk_ev a b c l hl hs) ?_
  by_cases h : verOk a b c l = true
  · obtain ⟨ha, hb, hc, h5, hall⟩ := verOk_is h
    have h20 : ∀ x ∈ l, (L x).length ≤ 20 := fun x hx => (preOk_len (hall x hx)).2
    have la := itoa9 ha; have lb := itoa9 hb; have lc := itoa9 hc
    refine ev_pos h ?_
    rw [if_pos h]
    refine ev_const (impl_DecText_eq a (by omega) (by omega)) ?_
    refine ev_pos (by rw [size_S]; omega) (ev_const (impl_DecText_eq b (by omega) (by omega)) ?_)
    refine ev_pos (by rw [ByteArray.size_append, size_S, size_S, one_size]; omega) (ev_pos (by rw [ByteArray.size_append, ByteArray.size_append, size_S, size_S, one_size]; omega) (ev_const (impl_DecText_eq c (by omega) (by omega)) ?_))
    refine ev_pos (by simp only [ByteArray.size_append, size_S, one_size]; omega) ?_
    rw [core_S]
    have lv := vcore_len ha hb hc
    cases l with
    | nil => exact ev_use (ev_neg (by simp) (Ev.now _)) (by simp [vtail])
    | cons x r =>
      have lt := vtail_len h5 h20
      have et : vtail (x :: r) = 45 :: Lib.join ((x :: r).map L) [46] := by unfold vtail; rw [if_neg (by simp)]
      rw [et, List.length_cons] at lt
      rw [et]
      refine ev_pos (by simp only [List.length_cons]; omega) ?_
      refine ev_const (join_some _ h5 h20) ?_
      refine ev_pos (by rw [size_S]; omega) ?_
      refine ev_pos (by simp only [ByteArray.size_append, size_S, one_size]; omega) ?_
      refine ev_use (Ev.now _) ?_
      apply L_inj
      rw [L_append, L_append, L_S, L_S, L_S]; rfl
  · exact ev_use (ev_neg h (Ev.now _)) (by rw [if_neg h]; rfl)
end Go.Proofs.YtcfeihimmboghaaGreatDoor.U

end
section
namespace Go.Proofs.YtcfeihimmboghaaGreatDoor.U
open Go Go.RowKit Go.Proofs.YtcfeihimmboghaaGreatDoorW.PrintWords Go.Proofs.YtcfeihimmboghaaGreatDoor.G
set_option linter.unusedVariables false
def cutP (c : UInt8) : B → B → List B
  | p, [] => [p]
  | p, x :: l => if x = c then p :: cutP c [] l else cutP c (p ++ [x]) l
theorem cutP_len (c : UInt8) : ∀ l p, 1 ≤ (cutP c p l).length ∧ (cutP c p l).length ≤ l.length + 1 := by
  intro l
  induction l with
  | nil => intro p; simp [cutP]
  | cons x l ih =>
    intro p
    unfold cutP
    by_cases h : x = c
    · rw [if_pos h]; have := ih []; simp only [List.length_cons]; omega
    · rw [if_neg h]; have := ih (p ++ [x]); simp only [List.length_cons]; omega
theorem spec_l01Cut_l (s : ByteArray) (c : UInt8) (hs : s.size ≤ 1048576) : ∀ d j (a : Nat) (x5 : List ByteArray), j + d = (L s).length → a ≤ j → x5.length ≤ j →
    Ev (fun k => spec_l01Cut.l0 k s (c.toNat : Int) x5 (a : Int) (j : Int)) (x5 ++ (cutP c (((L s).take j).drop a) ((L s).drop j)).map S) := by
  rw [size_L] at hs
  intro d
  induction d with
  | zero =>
    intro j a x5 hj ha h5
    have e : j = (L s).length := by omega
    subst e
    rw [List.drop_length, List.take_length]
    refine Ev.step (f := fun _ => some (x5 ++ (cutP c ((L s).drop a) []).map S)) (fun k => ?_) (Ev.now _)
    have e1 : s.extract (((a : Nat) : Int)).toNat s.size = S ((L s).drop a) := by
      apply L_inj; rw [L_extract, L_S, Int.toNat_natCast, size_L, List.take_of_length_le (by rw [List.length_drop]; omega)]
    rw [spec_l01Cut.l0, if_neg (by rw [size_L]; omega), if_pos (by omega), if_pos (by rw [size_L]; omega), if_pos (by omega), e1]
    rfl
  | succ d ih =>
    intro j a x5 hj ha h5
    have h : j < (L s).length := by omega
    rw [drop_at (L s) j h]
    by_cases hc : at_ (L s) j = c
    · have e1 : s.extract (((a : Nat) : Int)).toNat ((j : Int)).toNat = S (((L s).take j).drop a) := by
        apply L_inj; rw [L_extract, L_S, Int.toNat_natCast, Int.toNat_natCast, List.drop_take]
      refine Ev.step (f := fun k => spec_l01Cut.l0 k s (c.toNat : Int) (x5 ++ [S (((L s).take j).drop a)]) ((j + 1 : Nat) : Int) ((j + 1 : Nat) : Int)) (fun k => ?_) ?_
      · rw [spec_l01Cut.l0, if_pos (by rw [size_L]; omega), if_pos (by omega), bt_nat, if_pos (by rw [hc]), if_pos (by omega), if_pos (by omega), if_pos (by rw [size_L]; omega), if_pos (by omega), e1, wa1 j (by omega)]
      · refine ev_use (ih (j + 1) (j + 1) _ (by omega) (Nat.le_refl _) (by rw [List.length_append]; simp; omega)) ?_
        have e2 : ((L s).take (j + 1)).drop (j + 1) = [] := List.drop_eq_nil_of_le (by rw [List.length_take]; omega)
        rw [e2]
        conv => rhs; unfold cutP
        rw [if_pos hc, List.map_cons, List.append_assoc]; rfl
    · have hb : ¬ ((at_ (L s) j).toNat : Int) = (c.toNat : Int) := fun e => hc (byte_inj e)
      refine Ev.step (f := fun k => spec_l01Cut.l0 k s (c.toNat : Int) x5 (a : Int) ((j + 1 : Nat) : Int)) (fun k => ?_) ?_
      · rw [spec_l01Cut.l0, if_pos (by rw [size_L]; omega), if_pos (by omega), bt_nat, if_neg hb, wa1 j (by omega)]
      · refine ev_use (ih (j + 1) a x5 (by omega) (by omega) (by omega)) ?_
        have e2 : ((L s).take (j + 1)).drop a = ((L s).take j).drop a ++ [at_ (L s) j] := by
          rw [take_at (L s) j h, List.drop_append_of_le_length (by rw [List.length_take]; omega)]
        rw [e2]
        conv => rhs; unfold cutP
        rw [if_neg hc]
theorem spec_l01Cut_ev (s : ByteArray) (c : UInt8) (hs : s.size ≤ 1048576) : Ev (fun k => spec_l01Cut.f k s (c.toNat : Int)) ((cutP c [] (L s)).map S) := by
  have := spec_l01Cut_l s c hs (L s).length 0 0 [] (by omega) (by omega) (by simp)
  unfold spec_l01Cut.f
  simpa using this
theorem index_free (c : UInt8) : ∀ (p l : B), c ∉ p → Lib.indexByte (p ++ c :: l) c = (p.length : Int) := by
  intro p
  induction p with
  | nil => intro l _; simp [Lib.indexByte]
  | cons x p ih =>
    intro l h
    simp only [List.mem_cons, not_or] at h
    have hx : ¬ x = c := fun e => h.1 e.symm
    have := ih l h.2
    rw [List.cons_append]
    unfold Lib.indexByte
    rw [if_neg (by simpa using hx), this, if_neg (by simp), List.length_cons]; omega
theorem splitK_cut (c : UInt8) : ∀ (l p : B), c ∉ p → Lib.splitK [c] 0 ((p ++ l).count c) (p ++ l) = cutP c p l := by
  intro l
  induction l with
  | nil =>
    intro p hp
    rw [List.append_nil, List.count_eq_zero_of_not_mem hp]; rfl
  | cons x l ih =>
    intro p hp
    unfold cutP
    by_cases h : x = c
    · subst h
      rw [if_pos rfl]
      have e : (p ++ x :: l).count x = l.count x + 1 := by rw [List.count_append, List.count_eq_zero_of_not_mem hp, List.count_cons_self]; omega
      have ei : Lib.index (p ++ x :: l) [x] = (p.length : Int) := by rw [Lib.index_one, index_free x p l hp]
      rw [e, Lib.splitK, if_neg (by rw [ei]; simp), ei, Int.toNat_natCast, List.take_left']
      · have ed : (p ++ x :: l).drop (p.length + [x].length) = l := by rw [List.drop_append]; simp
        rw [ed]; congr 1
        exact ih [] (by simp)
      · simp
    · rw [if_neg h]
      have := ih (p ++ [x]) (by simp only [List.mem_append, List.mem_singleton, not_or]; exact ⟨hp, fun e => h e.symm⟩)
      rw [List.append_assoc] at this; exact this
theorem split_one (s : ByteArray) (c : UInt8) (hs : s.size ≤ 1048576) : strings_Split.f s (S [c]) = some ((cutP c [] (L s)).map S) := by
  unfold strings_Split.f
  rw [if_pos ⟨by omega, by simp⟩]
  congr 1
  have e1 : (S [c]).data.toList = [c] := L_S [c]
  have e2 : Lib.countB s (S [c]) = (L s).count c := by
    show Lib.count s.data.toList (S [c]).data.toList = _
    rw [e1, Lib.count_one]; rfl
  have e3 := Lib.splitB_data (S [c]) 0 (Lib.countB s (S [c])) s
  rw [e1, e2] at e3
  have e4 := splitK_cut c (L s) [] (by simp)
  rw [List.nil_append] at e4
  rw [e2]
  have e5 : (Lib.splitB (S [c]) 0 ((L s).count c) s).map L = cutP c [] (L s) := e3.trans e4
  rw [← e5, List.map_map]
  have : (S ∘ L) = (id : ByteArray → ByteArray) := by funext x; exact S_L x
  rw [this, List.map_id]
end Go.Proofs.YtcfeihimmboghaaGreatDoor.U

end
section
namespace Go.Proofs.YtcfeihimmboghaaGreatDoor.U
open Go Go.RowKit Go.Proofs.YtcfeihimmboghaaGreatDoorW.PrintWords Go.Proofs.YtcfeihimmboghaaGreatDoor.G
set_option linter.unusedVariables false
set_option linter.unusedSimpArgs false
def idx (l : B) (c : UInt8) : Int := Lib.indexByte l c
theorem idx_nil (c : UInt8) : idx [] c = -1 := rfl
theorem idx_cons (b : UInt8) (l : B) (c : UInt8) : idx (b :: l) c = if b = c then 0 else if idx l c = -1 then -1 else idx l c + 1 := by
  show Lib.indexByte (b :: l) c = _
  rw [Lib.indexByte]
  by_cases h : b = c
  · simp [h]
  · simp [h]; rfl
theorem idx_ge (l : B) (c : UInt8) : -1 ≤ idx l c := Lib.indexByte_ge l c
theorem idx_lt (l : B) (c : UInt8) : idx l c < l.length := by
  induction l with
  | nil => rw [idx_nil]; simp
  | cons b l ih =>
    rw [idx_cons, List.length_cons]
    split
    · omega
    · split <;> omega
def idxFrom (l : B) (c : UInt8) (i : Nat) : Int := if idx (l.drop i) c = -1 then -1 else (i : Int) + idx (l.drop i) c
theorem idxFrom_zero (l : B) (c : UInt8) : idxFrom l c 0 = idx l c := by
  unfold idxFrom; rw [List.drop_zero]; split
  · rename_i h; rw [h]
  · simp
theorem spec_l01At_ev (s : ByteArray) (c : UInt8) (hs : s.size ≤ 1099511627776) : Ev (fun k => spec_l01At.f k s (c.toNat : Int)) (idx (L s) c) := by
  rw [← idxFrom_zero]
  refine loop_up (fun k i (_ : Unit) => spec_l01At.l0 k s (c.toNat : Int) i) (L s).length (fun _ _ => True) (fun i _ => idxFrom (L s) c i) ?_ ?_ 0 () (by omega) trivial
  · intro st _
    refine Ev.step (f := fun k => some (-1)) (fun k => by rw [spec_l01At.l0, if_neg (by rw [size_L]; omega)]) ?_
    refine ev_use (Ev.now _) ?_
    unfold idxFrom; rw [List.drop_length, idx_nil, if_pos rfl]
  · intro i st hi _ ih
    have hz : (i : Int) < (s.size : Int) := by rw [size_L]; omega
    by_cases h : at_ (L s) i = c
    · refine Ev.step (f := fun k => some (i : Int)) (fun k => ?_) (ev_use (Ev.now _) ?_)
      · rw [spec_l01At.l0, if_pos hz, if_pos (by omega), bt_nat, h, if_pos rfl]
      · unfold idxFrom; rw [drop_at _ _ hi, idx_cons, if_pos h]; simp
    · refine Ev.step (f := fun k => spec_l01At.l0 k s (c.toNat : Int) ((i + 1 : Nat) : Int)) (fun k => ?_) (ev_use (ih () trivial) ?_)
      · rw [spec_l01At.l0, if_pos hz, if_pos (by omega), bt_nat, if_neg (fun e => h (byte_inj e)), inc i (by rw [← size_L] at hi; omega)]
      · unfold idxFrom; rw [drop_at _ _ hi, idx_cons, if_neg h]
        have := idx_ge ((L s).drop (i + 1)) c
        split
        · rfl
        · rw [if_neg (by omega)]; omega
theorem cutP_mem (c : UInt8) : ∀ (l p x : B), x ∈ cutP c p l → x.length ≤ p.length + l.length := by
  intro l
  induction l with
  | nil => intro p x h; simp only [cutP, List.mem_singleton] at h; subst h; simp
  | cons y l ih =>
    intro p x h
    unfold cutP at h
    by_cases hy : y = c
    · rw [if_pos hy, List.mem_cons] at h
      rcases h with rfl | h
      · omega
      · have := ih [] x h; simp at *; omega
    · rw [if_neg hy] at h
      have := ih _ x h; simp at *; omega
def vhead (l : B) : B := if 0 ≤ idx l 45 then l.take (idx l 45).toNat else l
def vpre (l : B) : List ByteArray := if 0 ≤ idx l 45 then (cutP 46 [] (l.drop ((idx l 45).toNat + 1))).map S else []
def vpart (l : B) (i : Nat) : Int := rdec ((cutP 46 [] (vhead l)).getD i [])
def zeroV : Int × Int × Int × List ByteArray × Bool := (0, 0, 0, [], false)
def readVer (l : B) : Int × Int × Int × List ByteArray × Bool :=
  if (cutP 46 [] (vhead l)).length = 3 ∧ vtext (vpart l 0) (vpart l 1) (vpart l 2) (vpre l) = l then (vpart l 0, vpart l 1, vpart l 2, vpre l, true) else zeroV
theorem vhead_len (l : B) : (vhead l).length ≤ l.length := by
  unfold vhead; split
  · rw [List.length_take]; omega
  · omega
theorem vpre_len (l : B) : (vpre l).length ≤ l.length + 1 := by
  unfold vpre; split
  · rw [List.length_map]; have := (cutP_len 46 (l.drop ((idx l 45).toNat + 1)) []).2; rw [List.length_drop] at this; omega
  · simp
theorem vpre_mem (l : B) : ∀ x ∈ vpre l, x.size ≤ l.length := by
  intro x hx
  unfold vpre at hx
  split at hx
  · obtain ⟨y, hy, rfl⟩ := List.mem_map.1 hx
    have := cutP_mem 46 _ [] y hy
    rw [size_S]; simp at this; omega
  · simp at hx
theorem rd_cut (q : List B) (i : Nat) : rdOf ByteArray.empty (q.map S) (i : Int) = S (q.getD i []) := by
  show (q.map S).getD i ByteArray.empty = _
  rw [List.getD_eq_getElem?_getD, List.getD_eq_getElem?_getD, List.getElem?_map]
  cases q[i]? <;> rfl
theorem getD_len (q : List B) (i n : Nat) (h : ∀ x ∈ q, x.length ≤ n) : (q.getD i []).length ≤ n := by
  rw [List.getD_eq_getElem?_getD]
  cases e : q[i]? with
  | none => simp
  | some y => exact h y (List.mem_of_getElem? e)
theorem head_part (l : B) (i : Nat) : ((cutP 46 [] (vhead l)).getD i []).length ≤ l.length :=
  getD_len _ _ _ fun x hx => by have := cutP_mem 46 _ [] x hx; have := vhead_len l; simp at *; omega
theorem vhead_nil : vhead [] = [] := rfl
theorem three_ne {l : B} (h : (cutP 46 [] (vhead l)).length = 3) : l ≠ [] := by
  rintro rfl
  rw [vhead_nil] at h
  simp [cutP] at h
theorem spec_ReadVersion_j0 (s : ByteArray) (hs : s.size ≤ 1048576) : Ev (fun k => spec_ReadVersion.j0 k s (S (vhead (L s))) 0 0 0 (vpre (L s))) (readVer (L s)) := by
  have hsz := size_L s
  have hh := vhead_len (L s)
  have hc := spec_l01Cut_ev (S (vhead (L s))) 46 (by rw [size_S]; omega)
  rw [L_S] at hc
  have hp : ∀ i, (S ((cutP 46 [] (vhead (L s))).getD i [])).size ≤ 1099511627776 := fun i => by have := head_part (L s) i; rw [size_S]; omega
  have hd : ∀ i, Ev (fun k => spec_ReadDec.f k (S ((cutP 46 [] (vhead (L s))).getD i []))) (vpart (L s) i) := fun i => by
    have := spec_ReadDec_ev _ (hp i); rw [L_S] at this; exact this
  have r0 : rdOf ByteArray.empty ((cutP 46 [] (vhead (L s))).map S) 0 = S ((cutP 46 [] (vhead (L s))).getD 0 []) := rd_cut _ 0
  have r1 : rdOf ByteArray.empty ((cutP 46 [] (vhead (L s))).map S) 1 = S ((cutP 46 [] (vhead (L s))).getD 1 []) := rd_cut _ 1
  have r2 : rdOf ByteArray.empty ((cutP 46 [] (vhead (L s))).map S) 2 = S ((cutP 46 [] (vhead (L s))).getD 2 []) := rd_cut _ 2
  refine Ev.step (fun k => by rw [spec_ReadVersion.j0]) ?_
  refine Ev.bind hc ?_
  rw [List.length_map]
  unfold readVer
  by_cases h3 : (cutP 46 [] (vhead (L s))).length = 3
  · refine ev_pos (by omega) (ev_pos (by omega) ?_)
    rw [r0]
    refine Ev.bind (hd 0) (ev_pos (by omega) ?_)
    rw [r1]
    refine Ev.bind (hd 1) (ev_pos (by omega) ?_)
    rw [r2]
    refine Ev.bind (hd 2) ?_
    have hv := vpre_len (L s); have hm := vpre_mem (L s)
    refine Ev.bind (spec_VersionText_ev _ _ _ _ (by omega) fun x hx => by have := hm x hx; omega) ?_
    rw [toList_S, toList_L]
    by_cases hv : vtext (vpart (L s) 0) (vpart (L s) 1) (vpart (L s) 2) (vpre (L s)) = L s
    · exact ev_use (ev_pos hv (Ev.now _)) (if_pos ⟨h3, hv⟩).symm
    · exact ev_use (ev_neg hv (Ev.now _)) (if_neg fun h => hv h.2).symm
  · exact ev_use (ev_neg (by omega) (Ev.now _)) (if_neg fun h => h3 h.1).symm
theorem spec_ReadVersion_ev (s : ByteArray) (hs : s.size ≤ 1048576) : Ev (fun k => spec_ReadVersion.f k s) (readVer (L s)) := by
  have hsz := size_L s
  have h := spec_ReadVersion_j0 s hs
  have hl := idx_lt (L s) 45
  have hg := idx_ge (L s) 45
  unfold spec_ReadVersion.f
  refine Ev.bind (spec_l01At_ev s 45 (by omega)) ?_
  unfold vhead vpre at h
  by_cases h0 : 0 ≤ idx (L s) 45
  · rw [if_pos h0, if_pos h0] at h
    have hw : wrap64 (idx (L s) 45 + 1) = (((idx (L s) 45).toNat + 1 : Nat) : Int) := by rw [w64 (by omega) (by omega)]; omega
    rw [hw]
    refine ev_pos h0 (ev_pos h0 (ev_pos (by omega) (ev_pos (by omega) (ev_pos (by omega) ?_))))
    have e1 : s.extract ((((idx (L s) 45).toNat + 1 : Nat) : Int)).toNat s.size = S ((L s).drop ((idx (L s) 45).toNat + 1)) := by
      apply L_inj; rw [L_extract, L_S, Int.toNat_natCast, size_L, List.take_of_length_le (by rw [List.length_drop]; omega)]
    have e2 : s.extract 0 (idx (L s) 45).toNat = S ((L s).take (idx (L s) 45).toNat) := by
      apply L_inj; rw [L_extract, L_S, List.drop_zero, Nat.sub_zero]
    have hc := spec_l01Cut_ev (S ((L s).drop ((idx (L s) 45).toNat + 1))) 46 (by rw [size_S, List.length_drop]; omega)
    rw [L_S] at hc
    rw [e1, e2]
    exact Ev.bind hc h
  · rw [if_neg h0, if_neg h0, S_L] at h
    exact ev_neg h0 h
theorem impl_cut (s : ByteArray) (hs : s.size ≤ 1048576) : strings_Cut.f s (⟨#[45]⟩ : ByteArray) = some (S (vhead (L s)), (if 0 ≤ idx (L s) 45 then S ((L s).drop ((idx (L s) 45).toNat + 1)) else ByteArray.empty), decide (0 ≤ idx (L s) 45)) := by
  unfold strings_Cut.f
  rw [if_pos (by omega)]
  have e : (⟨#[45]⟩ : ByteArray).data.toList = [45] := rfl
  have e2 : s.data.toList = L s := rfl
  rw [e, e2]
  unfold Lib.cut
  rw [Lib.index_one]
  show some (_, _, _) = _
  unfold vhead
  by_cases h : 0 ≤ idx (L s) 45
  · have h' : 0 ≤ Lib.indexByte (L s) 45 := h
    rw [if_pos h', if_pos h, if_pos h, decide_eq_true h]; rfl
  · have h' : ¬ 0 ≤ Lib.indexByte (L s) 45 := h
    rw [if_neg h', if_neg h, if_neg h, decide_eq_false h]; rfl
theorem impl_ReadVersion_ev (s : ByteArray) (hs : s.size ≤ 1048576) : Ev (fun k => impl_ReadVersion.f k s) (readVer (L s)) := by
  have hsz := size_L s
  have hh := vhead_len (L s)
  have hl := idx_lt (L s) 45
  have hp : ∀ i, (S ((cutP 46 [] (vhead (L s))).getD i [])).size ≤ 1099511627776 := fun i => by have := head_part (L s) i; rw [size_S]; omega
  have hd : ∀ i, impl_ReadDec.f (S ((cutP 46 [] (vhead (L s))).getD i [])) = some (vpart (L s) i) := fun i => by
    have := impl_ReadDec_eq _ (hp i); rw [L_S] at this; exact this
  have r0 : rdOf ByteArray.empty ((cutP 46 [] (vhead (L s))).map S) 0 = S ((cutP 46 [] (vhead (L s))).getD 0 []) := rd_cut _ 0
  have r1 : rdOf ByteArray.empty ((cutP 46 [] (vhead (L s))).map S) 1 = S ((cutP 46 [] (vhead (L s))).getD 1 []) := rd_cut _ 1
  have r2 : rdOf ByteArray.empty ((cutP 46 [] (vhead (L s))).map S) 2 = S ((cutP 46 [] (vhead (L s))).getD 2 []) := rd_cut _ 2
  have hsp := split_one (S (vhead (L s))) 46 (by rw [size_S]; omega)
  rw [L_S] at hsp
  have e46 : (⟨#[46]⟩ : ByteArray) = S [46] := rfl
  unfold impl_ReadVersion.f
  refine ev_const (impl_cut s hs) ?_
  rw [e46]
  refine ev_const hsp ?_
  rw [List.length_map]
  unfold readVer
  by_cases h3 : (cutP 46 [] (vhead (L s))).length = 3
  · have hne := three_ne h3
    refine ev_pos (by omega) (ev_pos (by omega) ?_)
    rw [r0]
    refine ev_const (hd 0) (ev_pos (by omega) ?_)
    rw [r1]
    refine ev_const (hd 1) (ev_pos (by omega) ?_)
    rw [r2]
    refine ev_const (hd 2) ?_
    have hv := vpre_len (L s); have hm := vpre_mem (L s)
    have ht := impl_VersionText_ev (vpart (L s) 0) (vpart (L s) 1) (vpart (L s) 2) (vpre (L s)) (by omega) fun x hx => by have := hm x hx; omega
    have fin : Ev (fun k => (impl_VersionText.f k (vpart (L s) 0) (vpart (L s) 1) (vpart (L s) 2) (vpre (L s))).bind fun t => if t.toList = s.toList then (if s.toList = ([] : List UInt8) then some (0, 0, 0, ([] : List ByteArray), false) else some (vpart (L s) 0, vpart (L s) 1, vpart (L s) 2, vpre (L s), true)) else some (0, 0, 0, ([] : List ByteArray), false)) (if (cutP 46 [] (vhead (L s))).length = 3 ∧ vtext (vpart (L s) 0) (vpart (L s) 1) (vpart (L s) 2) (vpre (L s)) = L s then (vpart (L s) 0, vpart (L s) 1, vpart (L s) 2, vpre (L s), true) else zeroV) := by
      refine Ev.bind ht ?_
      rw [toList_S, toList_L]
      by_cases hv : vtext (vpart (L s) 0) (vpart (L s) 1) (vpart (L s) 2) (vpre (L s)) = L s
      · exact ev_use (ev_pos hv (ev_neg hne (Ev.now _))) (if_pos ⟨h3, hv⟩).symm
      · exact ev_use (ev_neg hv (Ev.now _)) (if_neg fun h => hv h.2).symm
    by_cases h0 : 0 ≤ idx (L s) 45
    · have hc := split_one (S ((L s).drop ((idx (L s) 45).toNat + 1))) 46 (by rw [size_S, List.length_drop]; omega)
      rw [L_S] at hc
      refine ev_pos (decide_eq_true h0) ?_
      simp only [if_pos h0]
      refine ev_const hc ?_
      have ev : vpre (L s) = (cutP 46 [] ((L s).drop ((idx (L s) 45).toNat + 1))).map S := if_pos h0
      rw [ev] at fin ⊢
      exact fin
    · refine ev_neg (by simpa using h0) ?_
      have ev : vpre (L s) = [] := if_neg h0
      rw [ev] at fin ⊢
      exact fin
  · exact ev_use (ev_neg (by omega) (Ev.now _)) (if_neg fun h => h3 h.1).symm
end Go.Proofs.YtcfeihimmboghaaGreatDoor.U

end
section
namespace Go.Proofs.YtcfeihimmboghaaGreatDoor.U
open Go Go.RowKit Go.Proofs.YtcfeihimmboghaaGreatDoorW.PrintWords Go.Proofs.YtcfeihimmboghaaGreatDoor.G
set_option linter.unusedVariables false
def isVer (l : B) : Bool := (readVer l).2.2.2.2
def verOr (l : B) : Bool := isVer l || l == []
theorem isVer_text {l : B} (h : isVer l = true) : ∃ a b c p, vtext a b c p = l ∧ readVer l = (a, b, c, p, true) := by
  unfold isVer at h
  unfold readVer at h ⊢
  split at h
  · rename_i hc
    exact ⟨_, _, _, _, hc.2, by rw [if_pos hc]⟩
  · simp [zeroV] at h
theorem isVer_len {l : B} (h : isVer l = true) : l.length ≤ 135 := by
  obtain ⟨a, b, c, p, e, _⟩ := isVer_text h
  rw [← e]; exact vtext_len _ _ _ _
theorem isVer_nil : isVer [] = false := by
  unfold isVer readVer
  rw [if_neg]
  · rfl
  · rintro ⟨h, _⟩; exact absurd rfl (three_ne h)
theorem verOr_len {l : B} (h : verOr l = true) : l.length ≤ 135 := by
  unfold verOr at h
  rw [Bool.or_eq_true] at h
  rcases h with h | h
  · exact isVer_len h
  · rw [beq_iff_eq] at h; rw [h]; simp
end Go.Proofs.YtcfeihimmboghaaGreatDoor.U

end
