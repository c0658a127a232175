/- A part of the proof that the law FnSort answers true at every input that its row speaks of. Conditions: the row's own. -/
import Derived.Test.YtcfeihimmboghaaGreatDoorMFnSort1
import Derived.Test.YtcfeihimmboghaaGreatDoorKFnSort0
import Derived.Test.YtcfeihimmboghaaGreatDoorKFnSort1
import Derived.Test.YtcfeihimmboghaaGreatDoorKFnSort2
section
namespace Go.Proofs.YtcfeihimmboghaaGreatDoor.U
open Go Go.RowKit Go.Proofs.YtcfeihimmboghaaGreatDoorW.PrintWords Go.Proofs.YtcfeihimmboghaaGreatDoor.G
set_option linter.unusedVariables false
set_option linter.unusedSimpArgs false
theorem cmpI_impl (a b : Int) : impl_compareInts.f a b = some (cmpI a b) := by
  unfold impl_compareInts.f cmpI
  by_cases h : a < b
  · rw [if_pos h, if_pos h]
  · rw [if_neg h, if_neg h]
    by_cases h2 : b < a
    · rw [if_pos (show a > b from h2), if_pos h2]
    · rw [if_neg (show ¬ a > b from h2), if_neg h2]
theorem cmpI_spec (a b : Int) : spec_l02Less.f a b = some (cmpI a b) := by
  unfold spec_l02Less.f cmpI
  by_cases h : a < b
  · rw [if_pos h, if_pos h]
  · rw [if_neg h, if_neg h]
    by_cases h2 : b < a
    · rw [if_pos (show a > b from h2), if_pos h2]
    · rw [if_neg (show ¬ a > b from h2), if_neg h2]
theorem spec_l02Texts_eq (a b : ByteArray) : spec_l02Texts.f a b = some (Lib.compareBytes (L a) (L b)) := by
  unfold spec_l02Texts.f
  rw [toList_L, toList_L, ← text_less]
  by_cases h : Op.bytesLess (L a) (L b) = true
  · rw [if_pos h, if_pos h]
  · rw [if_neg h, if_neg h]
    by_cases h2 : Op.bytesLess (L b) (L a) = true
    · rw [if_pos h2, if_pos h2]
    · rw [if_neg h2, if_neg h2]
theorem compare_eq (a b : ByteArray) : strings_Compare.f a b = some (Lib.compareBytes (L a) (L b)) := rfl
theorem spec_l02Part_ev (a b : ByteArray) (ha : a.size ≤ 1099511627776) (hb : b.size ≤ 1099511627776) : Ev (fun k => spec_l02Part.f k a b) (cmpP (L a) (L b)) := by
  unfold spec_l02Part.f cmpP
  refine Ev.bind (spec_ReadDec_ev a ha) (Ev.bind (spec_ReadDec_ev b hb) ?_)
  by_cases h1 : 0 ≤ rdec (L a)
  · rw [if_pos h1]
    refine ev_pos h1 ?_
    by_cases h2 : 0 ≤ rdec (L b)
    · rw [if_pos h2]
      refine Ev.step (f := fun _ => some (cmpI (rdec (L a)) (rdec (L b)))) (fun k => ?_) (Ev.now _)
      rw [spec_l02Part.j0, if_pos (decide_eq_true h2), cmpI_spec]; rfl
    · rw [if_neg h2]
      refine Ev.step (f := fun _ => some (-1)) (fun k => ?_) (Ev.now _)
      rw [spec_l02Part.j0, if_neg (by simpa using h2), if_pos h1]
  · rw [if_neg h1]
    refine ev_neg h1 ?_
    by_cases h2 : 0 ≤ rdec (L b)
    · rw [if_pos h2]
      refine Ev.step (f := fun _ => some 1) (fun k => ?_) (Ev.now _)
      rw [spec_l02Part.j0, if_neg (by decide), if_neg h1, if_pos h2]
    · rw [if_neg h2]
      refine Ev.step (f := fun _ => some (Lib.compareBytes (L a) (L b))) (fun k => ?_) (Ev.now _)
      rw [spec_l02Part.j0, if_neg (by decide), if_neg h1, if_neg h2, spec_l02Texts_eq]; rfl
theorem cmpL_end (l m : List ByteArray) (i : Nat) (h : (i = l.length ∧ i ≤ m.length) ∨ (i = m.length ∧ i ≤ l.length)) : cmpL ((l.drop i).map L) ((m.drop i).map L) = cmpI l.length m.length := by
  unfold cmpI
  by_cases h1 : l.length = i
  · rw [List.drop_of_length_le (by omega)]
    by_cases h2 : m.length = i
    · rw [List.drop_of_length_le (by omega), if_neg (by omega), if_neg (by omega)]; rfl
    · rw [drop_getD m i ByteArray.empty (by omega), if_pos (by omega)]; rfl
  · rw [drop_getD l i ByteArray.empty (by omega), List.drop_of_length_le (show m.length ≤ i by omega), if_neg (by omega), if_pos (by omega)]; rfl
theorem spec_cmp_l1 (a b c : Int) (l : List ByteArray) (a' b' c' : Int) (m : List ByteArray) (hl : l.length ≤ 1048577) (hs : ∀ x ∈ l, x.size ≤ 1048576) (ht : ∀ x ∈ m, x.size ≤ 1048576) : ∀ d i, i + d = l.length → i ≤ m.length →
    Ev (fun k => spec_CompareVersion.l1 k (i : Int) a b c l a' b' c' m) (cmpL ((l.drop i).map L) ((m.drop i).map L)) := by
  intro d
  induction d with
  | zero =>
    intro i hi hm
    rw [cmpL_end l m i (Or.inl ⟨by omega, hm⟩)]
    refine Ev.step (f := fun k => spec_CompareVersion.j3 k (i : Int) false a b c l a' b' c' m) (fun k => by rw [spec_CompareVersion.l1, if_neg (by omega)]) ?_
    exact Ev.step (f := fun _ => some (cmpI l.length m.length)) (fun k => by rw [spec_CompareVersion.j3, if_neg (by decide), cmpI_spec]; rfl) (Ev.now _)
  | succ d ih =>
    intro i hi hm
    refine Ev.step (f := fun k => spec_CompareVersion.j3 k (i : Int) (decide ((i : Int) < (m.length : Int))) a b c l a' b' c' m) (fun k => by rw [spec_CompareVersion.l1, if_pos (by omega)]) ?_
    by_cases h : i < m.length
    · have e1 : rdOf ByteArray.empty l (i : Int) = l.getD i ByteArray.empty := rfl
      have e2 : rdOf ByteArray.empty m (i : Int) = m.getD i ByteArray.empty := rfl
      have p1 := hs _ (getD_mem l i ByteArray.empty (by omega))
      have p2 := ht _ (getD_mem m i ByteArray.empty h)
      rw [drop_getD l i ByteArray.empty (by omega), drop_getD m i ByteArray.empty h, List.map_cons, List.map_cons, cmpL]
      refine Ev.step (f := fun k => (spec_l02Part.f k (l.getD i ByteArray.empty) (m.getD i ByteArray.empty)).bind fun t => if t = 0 then spec_CompareVersion.l1 k ((i + 1 : Nat) : Int) a b c l a' b' c' m else some t) (fun k => ?_) (Ev.bind (spec_l02Part_ev _ _ (by omega) (by omega)) ?_)
      · rw [spec_CompareVersion.j3, if_pos (decide_eq_true (by omega)), if_pos (by omega), if_pos (by omega), if_pos (by omega), e1, e2, wa1 i (by omega)]
      · by_cases hz : cmpP (L (l.getD i ByteArray.empty)) (L (m.getD i ByteArray.empty)) = 0
        · rw [if_pos hz]; exact ev_pos hz (ih (i + 1) (by omega) (by omega))
        · rw [if_neg hz]; exact ev_neg hz (Ev.now _)
    · rw [cmpL_end l m i (Or.inr ⟨by omega, by omega⟩)]
      exact Ev.step (f := fun _ => some (cmpI l.length m.length)) (fun k => by rw [spec_CompareVersion.j3, if_neg (by rw [decide_eq_true_iff]; omega), cmpI_spec]; rfl) (Ev.now _)
theorem map_nil {l : List ByteArray} : l.map L = [] ↔ l = [] := List.map_eq_nil_iff
theorem cmp_tail (l m : List ByteArray) : (if l.map L = [] ∨ m.map L = [] then cmpI (m.map L).length (l.map L).length else cmpL (l.map L) (m.map L)) = if l = [] ∨ m = [] then cmpI m.length l.length else cmpL (l.map L) (m.map L) := by
  by_cases h : l = [] ∨ m = []
  · rw [if_pos h, if_pos (h.imp map_nil.2 map_nil.2), List.length_map, List.length_map]
  · rw [if_neg h, if_neg fun k => h (k.imp map_nil.1 map_nil.1)]
theorem spec_CompareVersion_ev (a b c : Int) (l : List ByteArray) (a' b' c' : Int) (m : List ByteArray) (hl : l.length ≤ 1048577) (hs : ∀ x ∈ l, x.size ≤ 1048576) (ht : ∀ x ∈ m, x.size ≤ 1048576) : Ev (fun k => spec_CompareVersion.f k a b c l a' b' c' m) (cmpV a b c (l.map L) a' b' c' (m.map L)) := by
  unfold spec_CompareVersion.f cmpV
  refine ev_const (cmpI_spec _ _) (ev_const (cmpI_spec _ _) (ev_const (cmpI_spec _ _) ?_))
  generalize cmpI a a' = x
  generalize cmpI b b' = y
  generalize cmpI c c' = z
  have h3 : Ev (fun k => spec_CompareVersion.l0 k [x, y, z] ((2 + 1 : Nat) : Int) a b c l a' b' c' m) (if l.map L = [] ∨ m.map L = [] then cmpI (m.map L).length (l.map L).length else cmpL (l.map L) (m.map L)) := by
    rw [cmp_tail]
    have e : ∀ k, spec_CompareVersion.l0 (k + 1) [x, y, z] ((2 + 1 : Nat) : Int) a b c l a' b' c' m = spec_CompareVersion.j1 k (decide (l = [] ∨ m = [])) a b c l a' b' c' m := fun k => by
      rw [spec_CompareVersion.l0, if_neg (by omega)]
      cases l with
      | nil => rw [if_pos (by simp)]; simp
      | cons p l =>
        rw [if_neg (by rw [List.length_cons]; omega)]
        cases m with
        | nil => simp
        | cons q m => rw [beq_eq_false_iff_ne.2 (show ¬ ((q :: m).length : Int) = 0 by rw [List.length_cons]; omega)]; simp
    refine Ev.step e ?_
    by_cases h : l = [] ∨ m = []
    · rw [if_pos h]
      exact Ev.step (f := fun _ => some (cmpI m.length l.length)) (fun k => by rw [spec_CompareVersion.j1, if_pos (decide_eq_true h), cmpI_spec]; rfl) (Ev.now _)
    · rw [if_neg h]
      refine Ev.step (fun k => ?_) (spec_cmp_l1 a b c l a' b' c' m hl hs ht l.length 0 (by omega) (by omega))
      rw [spec_CompareVersion.j1, if_neg (by simpa using h)]; rfl
  have st : ∀ (i : Nat), i < 3 → ∀ {q : Int}, Ev (fun k => spec_CompareVersion.l0 k [x, y, z] ((i + 1 : Nat) : Int) a b c l a' b' c' m) q → Ev (fun k => spec_CompareVersion.l0 k [x, y, z] (i : Int) a b c l a' b' c' m) (if rd [x, y, z] (i : Int) = 0 then q else rd [x, y, z] (i : Int)) := by
    intro i hi q hq
    by_cases h : rd [x, y, z] (i : Int) = 0
    · rw [if_pos h]
      refine Ev.step (fun k => ?_) hq
      rw [spec_CompareVersion.l0, if_pos (by omega), if_pos (by omega), if_pos (by simp; omega), if_pos h, wa1 i (by omega)]
    · rw [if_neg h]
      refine Ev.step (f := fun _ => some (rd [x, y, z] (i : Int))) (fun k => ?_) (Ev.now _)
      rw [spec_CompareVersion.l0, if_pos (by omega), if_pos (by omega), if_pos (by simp; omega), if_neg h]
  exact st 0 (by omega) (st 1 (by omega) (st 2 (by omega) h3))
theorem num_rdec {l : B} (h : preOk l = true) : isNum l = decide (0 ≤ rdec l) := by
  unfold preOk at h
  simp only [Bool.and_eq_true, Bool.or_eq_true, Bool.not_eq_true', decide_eq_true_eq] at h
  by_cases h1 : isNum l = true
  · rw [h1]
    rcases h.2.2 with h2 | h2
    · rw [h1] at h2; cases h2
    · rw [decide_eq_true h2]
  · rw [Bool.not_eq_true] at h1
    rw [h1]
    by_cases h2 : 0 ≤ rdec l
    · obtain ⟨u, _, e, _⟩ := rdec_some (l := l) (by omega)
      exfalso
      unfold isNum at h1
      rw [e] at h1
      have h3 : (Lib.decDigits u).all dgt = true := List.all_eq_true.2 (dec_dgt u)
      have h4 : (Lib.decDigits u != []) = true := bne_iff_ne.2 (dec_ne u)
      rw [h3, h4] at h1; cases h1
    · rw [decide_eq_false h2]
theorem trim0 (s : ByteArray) (hs : s.size ≤ 1048576) : strings_TrimLeft.f s (⟨#[48]⟩ : ByteArray) = some (S (stripz (L s))) := by
  unfold strings_TrimLeft.f
  rw [dif_pos (show (⟨#[48]⟩ : ByteArray).size = 1 from rfl), if_pos ⟨by decide, by omega⟩]
  rfl
theorem impl_comparePre_ev (a b : ByteArray) (ha : preOk (L a) = true) (hb : preOk (L b) = true) : Ev (fun k => impl_comparePre.f k a b) (cmpP (L a) (L b)) := by
  have la := preOk_len ha
  have lb := preOk_len hb
  rw [← size_L] at la lb
  unfold impl_comparePre.f cmpP
  refine Ev.bind (impl_isNumber_ev a (by omega)) (Ev.bind (impl_isNumber_ev b (by omega)) ?_)
  rw [num_rdec ha, num_rdec hb]
  by_cases h1 : 0 ≤ rdec (L a)
  · rw [if_pos h1]
    refine ev_pos (decide_eq_true h1) ?_
    by_cases h2 : 0 ≤ rdec (L b)
    · rw [if_pos h2]
      have hc := cmp_strip h1 h2
      refine Ev.step (f := fun _ => some (cmpI (rdec (L a)) (rdec (L b)))) (fun k => ?_) (Ev.now _)
      rw [impl_comparePre.j0, if_pos (decide_eq_true h2), trim0 a (by omega), Option.bind_some, trim0 b (by omega), Option.bind_some, cmpI_impl, Option.bind_some, size_S, size_S, compare_eq, Option.bind_some, L_S, L_S, ← hc]
      by_cases h3 : cmpI (stripz (L a)).length (stripz (L b)).length = 0
      · rw [if_pos h3, if_pos h3]
      · rw [if_neg h3, if_neg h3]
    · rw [if_neg h2]
      refine Ev.step (f := fun _ => some (-1)) (fun k => ?_) (Ev.now _)
      rw [impl_comparePre.j0, if_neg (by simpa using h2), if_pos (decide_eq_true h1)]
  · rw [if_neg h1]
    refine ev_neg (by simpa using h1) ?_
    by_cases h2 : 0 ≤ rdec (L b)
    · rw [if_pos h2]
      refine Ev.step (f := fun _ => some 1) (fun k => ?_) (Ev.now _)
      rw [impl_comparePre.j0, if_neg (by decide), if_neg (by simpa using h1), if_pos (decide_eq_true h2)]
    · rw [if_neg h2]
      refine Ev.step (f := fun _ => some (Lib.compareBytes (L a) (L b))) (fun k => ?_) (Ev.now _)
      rw [impl_comparePre.j0, if_neg (by decide), if_neg (by simpa using h1), if_neg (by simpa using h2), compare_eq]; rfl
theorem mn_nat (a b : Nat) : mn (a : Int) (b : Int) = ((min a b : Nat) : Int) := by
  unfold mn
  split <;> omega
theorem impl_cmp_l1 (a b c : Int) (l : List ByteArray) (a' b' c' : Int) (m : List ByteArray) (hl : l.length ≤ 1048577) (hs : ∀ x ∈ l, preOk (L x) = true) (ht : ∀ x ∈ m, preOk (L x) = true) : ∀ d i, i + d = min l.length m.length →
    Ev (fun k => impl_CompareVersion.l1 k ((min l.length m.length : Nat) : Int) (i : Int) a b c l a' b' c' m) (cmpL ((l.drop i).map L) ((m.drop i).map L)) := by
  intro d
  induction d with
  | zero =>
    intro i hi
    rw [cmpL_end l m i (by omega)]
    exact Ev.step (f := fun _ => some (cmpI l.length m.length)) (fun k => by rw [impl_CompareVersion.l1, if_neg (by omega), cmpI_impl]; rfl) (Ev.now _)
  | succ d ih =>
    intro i hi
    have e1 : rdOf ByteArray.empty l (i : Int) = l.getD i ByteArray.empty := rfl
    have e2 : rdOf ByteArray.empty m (i : Int) = m.getD i ByteArray.empty := rfl
    have p1 := hs _ (getD_mem l i ByteArray.empty (by omega))
    have p2 := ht _ (getD_mem m i ByteArray.empty (by omega))
    rw [drop_getD l i ByteArray.empty (by omega), drop_getD m i ByteArray.empty (by omega), List.map_cons, List.map_cons, cmpL]
    refine Ev.step (f := fun k => (impl_comparePre.f k (l.getD i ByteArray.empty) (m.getD i ByteArray.empty)).bind fun t => if t = 0 then impl_CompareVersion.l1 k ((min l.length m.length : Nat) : Int) ((i + 1 : Nat) : Int) a b c l a' b' c' m else some t) (fun k => ?_) (Ev.bind (impl_comparePre_ev _ _ p1 p2) ?_)
    · rw [impl_CompareVersion.l1, if_pos (by omega), if_pos (by omega), if_pos (by omega), if_pos (by omega), e1, e2, wa1 i (by omega)]
    · by_cases hz : cmpP (L (l.getD i ByteArray.empty)) (L (m.getD i ByteArray.empty)) = 0
      · rw [if_pos hz]; exact ev_pos hz (ih (i + 1) (by omega))
      · rw [if_neg hz]; exact ev_neg hz (Ev.now _)
theorem impl_CompareVersion_ev (a b c : Int) (l : List ByteArray) (a' b' c' : Int) (m : List ByteArray) (hl : l.length ≤ 1048577) (hs : ∀ x ∈ l, preOk (L x) = true) (ht : ∀ x ∈ m, preOk (L x) = true) : Ev (fun k => impl_CompareVersion.f k a b c l a' b' c' m) (cmpV a b c (l.map L) a' b' c' (m.map L)) := by
  unfold impl_CompareVersion.f cmpV
  refine ev_const (cmpI_impl _ _) (ev_const (cmpI_impl _ _) (ev_const (cmpI_impl _ _) (ev_some ?_)))
  generalize cmpI a a' = x
  generalize cmpI b b' = y
  generalize cmpI c c' = z
  have h3 : Ev (fun k => impl_CompareVersion.l0 k [x, y, z] (([x, y, z] : List Int).length : Int) ((2 + 1 : Nat) : Int) a b c l a' b' c' m) (if l.map L = [] ∨ m.map L = [] then cmpI (m.map L).length (l.map L).length else cmpL (l.map L) (m.map L)) := by
    rw [cmp_tail]
    have go := impl_cmp_l1 a b c l a' b' c' m hl hs ht _ 0 (Nat.zero_add _)
    by_cases h : ((((l.length : Int)) == 0) != (((m.length : Int)) == 0)) = true
    · have h' : l = [] ∨ m = [] := by
        cases l with
        | nil => exact Or.inl rfl
        | cons p l =>
          cases m with
          | nil => exact Or.inr rfl
          | cons q m =>
            exfalso
            have e1 : (((p :: l).length : Int) == 0) = false := beq_eq_false_iff_ne.2 (by rw [List.length_cons]; omega)
            have e2 : (((q :: m).length : Int) == 0) = false := beq_eq_false_iff_ne.2 (by rw [List.length_cons]; omega)
            rw [e1, e2] at h; cases h
      rw [if_pos h']
      exact Ev.step (f := fun _ => some (cmpI m.length l.length)) (fun k => by rw [impl_CompareVersion.l0, if_neg (by simp), if_pos h, cmpI_impl]; rfl) (Ev.now _)
    · have e : (if l = [] ∨ m = [] then cmpI m.length l.length else cmpL (l.map L) (m.map L)) = cmpL (l.map L) (m.map L) := by
        by_cases h' : l = [] ∨ m = []
        · have hb : l = [] ∧ m = [] := by
            cases l with
            | nil =>
              cases m with
              | nil => exact ⟨rfl, rfl⟩
              | cons q m =>
                exfalso; apply h
                have e2 : (((q :: m).length : Int) == 0) = false := beq_eq_false_iff_ne.2 (by rw [List.length_cons]; omega)
                rw [e2]; rfl
            | cons p l =>
              cases m with
              | nil =>
                exfalso; apply h
                have e1 : (((p :: l).length : Int) == 0) = false := beq_eq_false_iff_ne.2 (by rw [List.length_cons]; omega)
                rw [e1]; rfl
              | cons q m => simp at h'
          obtain ⟨rfl, rfl⟩ := hb
          rfl
        · rw [if_neg h']
      rw [e]
      refine Ev.step (fun k => ?_) go
      rw [impl_CompareVersion.l0, if_neg (by simp), if_neg h, mn_nat]; rfl
  have st : ∀ (i : Nat), i < 3 → ∀ {q : Int}, Ev (fun k => impl_CompareVersion.l0 k [x, y, z] (([x, y, z] : List Int).length : Int) ((i + 1 : Nat) : Int) a b c l a' b' c' m) q → Ev (fun k => impl_CompareVersion.l0 k [x, y, z] (([x, y, z] : List Int).length : Int) (i : Int) a b c l a' b' c' m) (if rd [x, y, z] (i : Int) = 0 then q else rd [x, y, z] (i : Int)) := by
    intro i hi q hq
    by_cases h : rd [x, y, z] (i : Int) = 0
    · rw [if_pos h]
      refine Ev.step (fun k => ?_) hq
      rw [impl_CompareVersion.l0, if_pos (by simp; omega), if_pos (by omega), if_pos (by simp; omega), if_pos h, wa1 i (by omega)]
    · rw [if_neg h]
      refine Ev.step (f := fun _ => some (rd [x, y, z] (i : Int))) (fun k => ?_) (Ev.now _)
      rw [impl_CompareVersion.l0, if_pos (by simp; omega), if_pos (by omega), if_pos (by simp; omega), if_neg h]
  exact st 0 (by omega) (st 1 (by omega) (st 2 (by omega) h3))
theorem ver_good (l : B) : (readVer l).2.2.2.1.length ≤ 5 ∧ ∀ x ∈ (readVer l).2.2.2.1, preOk (L x) = true := by
  unfold readVer
  split
  · rename_i hc
    have hv : verOk (vpart l 0) (vpart l 1) (vpart l 2) (vpre l) = true := by
      by_cases h : verOk (vpart l 0) (vpart l 1) (vpart l 2) (vpre l) = true
      · exact h
      · exfalso
        have := hc.2
        unfold vtext at this
        rw [if_neg h] at this
        exact three_ne hc.1 this.symm
    obtain ⟨_, _, _, h5, h6⟩ := verOk_is hv
    exact ⟨h5, h6⟩
  · exact ⟨by simp [zeroV], fun x hx => by simp [zeroV] at hx⟩
theorem ver_sizes (l : B) : ∀ x ∈ (readVer l).2.2.2.1, x.size ≤ 1048576 := fun x hx => by
  have := preOk_len ((ver_good l).2 x hx)
  rw [size_L]; omega
def cmpS (x y : B) : Int := cmpV (readVer x).1 (readVer x).2.1 (readVer x).2.2.1 ((readVer x).2.2.2.1.map L) (readVer y).1 (readVer y).2.1 (readVer y).2.2.1 ((readVer y).2.2.2.1.map L)
def verK (x : B) : List Int := kV (readVer x).1 (readVer x).2.1 (readVer x).2.2.1 ((readVer x).2.2.2.1.map L)
theorem cmpS_keyed : Keyed cmpS verK := fun x y => (lex_kV _ _ _ _ _ _ _ _).symm
theorem map_L_inj : ∀ {l m : List ByteArray}, l.map L = m.map L → l = m
  | [], [], _ => rfl
  | [], _ :: _, h => by simp at h
  | _ :: _, [], h => by simp at h
  | x :: l, y :: m, h => by
    rw [List.map_cons, List.map_cons, List.cons.injEq] at h
    rw [L_inj h.1, map_L_inj h.2]
theorem cmpS_inj {x y : B} (hx : isVer x = true) (hy : isVer y = true) (h : cmpS x y = 0) : x = y := by
  obtain ⟨a, b, c, p, e1, e2⟩ := isVer_text hx
  obtain ⟨a', b', c', p', e3, e4⟩ := isVer_text hy
  unfold cmpS at h
  rw [e2, e4] at h
  obtain ⟨h1, h2, h3, h4⟩ := cmpV_zero h
  have h4' := map_L_inj h4
  simp only at h1 h2 h3 h4'
  rw [← e1, ← e3, h1, h2, h3, h4']
theorem impl_compareTexts_ev (s t : ByteArray) (hs : s.size ≤ 1048576) (ht : t.size ≤ 1048576) : Ev (fun k => impl_compareTexts.f k s t) (cmpS (L s) (L t)) := by
  unfold impl_compareTexts.f
  have h1 := ver_good (L s)
  have h2 := ver_good (L t)
  exact Ev.bind (impl_ReadVersion_ev s hs) (Ev.bind (impl_ReadVersion_ev t ht) (Ev.bind (impl_CompareVersion_ev _ _ _ _ _ _ _ _ (by omega) h1.2 h2.2) (Ev.now _)))
theorem spec_compare_ev (x y : B) : Ev (fun k => spec_CompareVersion.f k (readVer x).1 (readVer x).2.1 (readVer x).2.2.1 (readVer x).2.2.2.1 (readVer y).1 (readVer y).2.1 (readVer y).2.2.1 (readVer y).2.2.2.1) (cmpS x y) :=
  spec_CompareVersion_ev _ _ _ _ _ _ _ _ (by have := (ver_good x).1; omega) (ver_sizes x) (ver_sizes y)
end Go.Proofs.YtcfeihimmboghaaGreatDoor.U

end
section
namespace Go.Proofs.YtcfeihimmboghaaGreatDoor.G
open Go.RowKit Go.Proofs.YtcfeihimmboghaaGreatDoorW.PrintWords Go.Proofs.YtcfeihimmboghaaGreatDoorW.PrintLast Go.Proofs.YtcfeihimmboghaaGreatDoorW.PrintMore
attribute [local go_sem] max2_int min2_int max_two min_two max_three min_three max_four min_four
attribute [local go_sem high] Go.Proofs.YtcfeihimmboghaaGreatDoor.G.str_gtr Go.Proofs.YtcfeihimmboghaaGreatDoor.G.str_leq Go.Proofs.YtcfeihimmboghaaGreatDoor.G.str_geq
set_option linter.unusedVariables false
set_option linter.unusedSimpArgs false
def impl_SortVersions.f (l0 : List ByteArray) : Option (List ByteArray) := if l0.length ≤ 1048576 ∧ (∀ x ∈ l0, x.size ≤ 1048576) then some ((Go.Proofs.YtcfeihimmboghaaGreatDoor.U.sorted Go.Proofs.YtcfeihimmboghaaGreatDoor.U.cmpS ((l0.map Go.Proofs.YtcfeihimmboghaaGreatDoor.U.L).filter Go.Proofs.YtcfeihimmboghaaGreatDoor.U.isVer)).map Go.Proofs.YtcfeihimmboghaaGreatDoor.U.S) else none
def laws_big.f (l0 : List Int) : Option (Bool) := some (decide ((l0.length : Int) > 1048576))
def laws_sameTexts.l0 : Nat → List ByteArray → List ByteArray → Int → Option (Bool)
 | 0, _, _, _ => none
 | k + 1, x0, x1, x5 => if x5 < (x0.length : Int) then (if 0 ≤ x5 then (if x5 < (x1.length : Int) then (if (rdOf ByteArray.empty x0 x5).toList = (rdOf ByteArray.empty x1 x5).toList then (laws_sameTexts.l0 k x0 x1 (wrap64 (x5 + 1))) else (some false)) else (none)) else (none)) else (some true)
def laws_sameTexts.f (k : Nat) (l0 : List ByteArray) (l1 : List ByteArray) : Option (Bool) := if (l0.length : Int) = (l1.length : Int) then (laws_sameTexts.l0 k l0 l1 0) else (some false)
theorem laws_sameTexts.mono_l : ∀ k, (∀ y0 y1 y2, LeO (laws_sameTexts.l0 k y0 y1 y2) (laws_sameTexts.l0 (k + 1) y0 y1 y2))
 | 0 => fun _ _ _ r h => by simp [laws_sameTexts.l0] at h
 | k + 1 => by
  have ih0 := laws_sameTexts.mono_l k
  ·intro y0 y1 y2
   unfold laws_sameTexts.l0
   repeat' first
   | (with_reducible exact ih0 _ _ _)
   | (with_reducible exact LeO.refl _)
   | (with_reducible exact LeO.none _)
   | (with_reducible refine LeO.ite ?_ ?_)
   | (with_reducible refine LeO.bind ?_ (fun _ => ?_))
   | exact ih0 _ _ _
   | exact LeO.none _
   | refine LeO.ite ?_ ?_
   | refine LeO.bind ?_ (fun _ => ?_)
theorem laws_sameTexts.mono : ∀ a0 a1 k, LeO (laws_sameTexts.f k a0 a1) (laws_sameTexts.f (k + 1) a0 a1) := by
 intro a0 a1 k
 have ih0 := laws_sameTexts.mono_l k
 unfold laws_sameTexts.f
 repeat' first
   | (with_reducible exact ih0 _ _ _)
   | (with_reducible exact LeO.refl _)
   | (with_reducible exact LeO.none _)
   | (with_reducible refine LeO.ite ?_ ?_)
   | (with_reducible refine LeO.bind ?_ (fun _ => ?_))
   | exact ih0 _ _ _
   | exact LeO.none _
   | refine LeO.ite ?_ ?_
   | refine LeO.bind ?_ (fun _ => ?_)
def impl_Newest.l0 : Nat → List ByteArray → Int → Option (ByteArray)
 | 0, _, _ => none
 | k + 1, x3, x4 => if x4 ≥ 0 then (if 0 ≤ x4 then (if x4 < (x3.length : Int) then ((impl_ReadVersion.f k (rdOf ByteArray.empty x3 x4)).bind fun bt682 => (if (bt682.2.2.2.1.length : Int) = 0 then (some (rdOf ByteArray.empty x3 x4)) else (impl_Newest.l0 k x3 (wrap64 (x4 - 1))))) else (none)) else (none)) else (if (x3.length : Int) = 0 then (some (⟨#[]⟩ : ByteArray)) else (if 0 ≤ (wrap64 ((x3.length : Int) - 1)) then (if (wrap64 ((x3.length : Int) - 1)) < (x3.length : Int) then (some (rdOf ByteArray.empty x3 (wrap64 ((x3.length : Int) - 1)))) else (none)) else (none)))
def impl_Newest.f (k : Nat) (l0 : List ByteArray) : Option (ByteArray) := (impl_SortVersions.f l0).bind fun t678 => (impl_Newest.l0 k t678 (wrap64 ((t678.length : Int) - 1)))
theorem impl_Newest.mono_l : ∀ k, (∀ y0 y1, LeO (impl_Newest.l0 k y0 y1) (impl_Newest.l0 (k + 1) y0 y1))
 | 0 => fun _ _ r h => by simp [impl_Newest.l0] at h
 | k + 1 => by
  have ih0 := impl_Newest.mono_l k
  ·intro y0 y1
   unfold impl_Newest.l0
   repeat' first
   | (with_reducible exact ih0 _ _)
   | (with_reducible exact impl_ReadVersion.mono _ _)
   | (with_reducible exact LeO.refl _)
   | (with_reducible exact LeO.none _)
   | (with_reducible refine LeO.ite ?_ ?_)
   | (with_reducible refine LeO.bind ?_ (fun _ => ?_))
   | exact ih0 _ _
   | exact impl_ReadVersion.mono _ _
   | exact LeO.none _
   | refine LeO.ite ?_ ?_
   | refine LeO.bind ?_ (fun _ => ?_)
theorem impl_Newest.mono : ∀ a0 k, LeO (impl_Newest.f k a0) (impl_Newest.f (k + 1) a0) := by
 intro a0 k
 have ih0 := impl_Newest.mono_l k
 unfold impl_Newest.f
 repeat' first
   | (with_reducible exact ih0 _ _)
   | (with_reducible exact impl_ReadVersion.mono _ _)
   | (with_reducible exact LeO.refl _)
   | (with_reducible exact LeO.none _)
   | (with_reducible refine LeO.ite ?_ ?_)
   | (with_reducible refine LeO.bind ?_ (fun _ => ?_))
   | exact ih0 _ _
   | exact impl_ReadVersion.mono _ _
   | exact LeO.none _
   | refine LeO.ite ?_ ?_
   | refine LeO.bind ?_ (fun _ => ?_)
def laws_has.l0 : Nat → List ByteArray → ByteArray → Int → Option (Bool)
 | 0, _, _, _ => none
 | k + 1, x0, x1, x5 => if x5 < (x0.length : Int) then (if 0 ≤ x5 then (if (rdOf ByteArray.empty x0 x5).toList = x1.toList then (some true) else (laws_has.l0 k x0 x1 (wrap64 (x5 + 1)))) else (none)) else (some false)
def laws_has.f (k : Nat) (l0 : List ByteArray) (a1 : ByteArray) : Option (Bool) := laws_has.l0 k l0 a1 0
theorem laws_has.mono_l : ∀ k, (∀ y0 y1 y2, LeO (laws_has.l0 k y0 y1 y2) (laws_has.l0 (k + 1) y0 y1 y2))
 | 0 => fun _ _ _ r h => by simp [laws_has.l0] at h
 | k + 1 => by
  have ih0 := laws_has.mono_l k
  ·intro y0 y1 y2
   unfold laws_has.l0
   repeat' first
   | (with_reducible exact ih0 _ _ _)
   | (with_reducible exact LeO.refl _)
   | (with_reducible exact LeO.none _)
   | (with_reducible refine LeO.ite ?_ ?_)
   | (with_reducible refine LeO.bind ?_ (fun _ => ?_))
   | exact ih0 _ _ _
   | exact LeO.none _
   | refine LeO.ite ?_ ?_
   | refine LeO.bind ?_ (fun _ => ?_)
theorem laws_has.mono : ∀ a0 a1 k, LeO (laws_has.f k a0 a1) (laws_has.f (k + 1) a0 a1) := by
 intro a0 a1 k
 have ih0 := laws_has.mono_l k
 unfold laws_has.f
 repeat' first
   | (with_reducible exact ih0 _ _ _)
   | (with_reducible exact LeO.refl _)
   | (with_reducible exact LeO.none _)
   | (with_reducible refine LeO.ite ?_ ?_)
   | (with_reducible refine LeO.bind ?_ (fun _ => ?_))
   | exact ih0 _ _ _
   | exact LeO.none _
   | refine LeO.ite ?_ ?_
   | refine LeO.bind ?_ (fun _ => ?_)
mutual
def laws_FnSort.j0 : Nat → List ByteArray → List ByteArray → Bool → Option (Bool)
 | 0, _, _, _ => none
 | k + 1, x3, x4, x45 => if x45 = true then (some false) else (laws_FnSort.l0 k x3 x4 0)
def laws_FnSort.l0 : Nat → List ByteArray → List ByteArray → Int → Option (Bool)
 | 0, _, _, _ => none
 | k + 1, x3, x4, x7 => if x7 < (x4.length : Int) then (if 0 ≤ x7 then ((impl_ReadVersion.f k (rdOf ByteArray.empty x4 x7)).bind fun bt718 => (if bt718.2.2.2.2 = true then ((laws_has.f k x3 (rdOf ByteArray.empty x4 x7)).bind fun t727 => (laws_FnSort.j2 k x3 x4 x7 (!t727) bt718.1 bt718.2.1 bt718.2.2.1 bt718.2.2.2.1)) else (laws_FnSort.j2 k x3 x4 x7 true bt718.1 bt718.2.1 bt718.2.2.1 bt718.2.2.2.1))) else (none)) else (laws_FnSort.l1 k x3 x4 0)
def laws_FnSort.j2 : Nat → List ByteArray → List ByteArray → Int → Bool → Int → Int → Int → List ByteArray → Option (Bool)
 | 0, _, _, _, _, _, _, _, _ => none
 | k + 1, x3, x4, x7, x70, x726000, x726001, x726002, x726003 => if x70 = true then (some false) else (if x7 > 0 then (if 0 ≤ (wrap64 (x7 - 1)) then (if (wrap64 (x7 - 1)) < (x4.length : Int) then ((impl_ReadVersion.f k (rdOf ByteArray.empty x4 (wrap64 (x7 - 1)))).bind fun bt729 => ((impl_CompareVersion.f k bt729.1 bt729.2.1 bt729.2.2.1 bt729.2.2.2.1 x726000 x726001 x726002 x726003).bind fun t737 => (if t737 ≥ 0 then (some false) else (laws_FnSort.l0 k x3 x4 (wrap64 (x7 + 1)))))) else (none)) else (none)) else (laws_FnSort.l0 k x3 x4 (wrap64 (x7 + 1))))
def laws_FnSort.l1 : Nat → List ByteArray → List ByteArray → Int → Option (Bool)
 | 0, _, _, _ => none
 | k + 1, x3, x4, x12 => if x12 < (x3.length : Int) then (if 0 ≤ x12 then ((impl_ReadVersion.f k (rdOf ByteArray.empty x3 x12)).bind fun bt743 => ((laws_has.f k x4 (rdOf ByteArray.empty x3 x12)).bind fun t752 => (if (bt743.2.2.2.2 != t752) = true then (some false) else (laws_FnSort.l1 k x3 x4 (wrap64 (x12 + 1)))))) else (none)) else ((impl_SortVersions.f x4).bind fun t738 => ((laws_sameTexts.f k t738 x4).bind fun t741 => (some t741)))
end
def laws_FnSort.f (k : Nat) (l0 : List Int) : Option (Bool) := (laws_big.f l0).bind fun t700 => (if t700 = true then (some true) else ((spec_DrawSortVersions.f k l0).bind fun t701 => ((impl_SortVersions.f t701).bind fun t704 => ((spec_DrawNewest.f k l0).bind fun t707 => ((impl_Newest.f k t707).bind fun t710 => ((spec_SortVersions.f k t701).bind fun t711 => ((laws_sameTexts.f k t704 t711).bind fun t714 => (if t714 = true then ((spec_Newest.f k t707).bind fun t715 => (if t710.toList = t715.toList then (if t710.toList = ([] : List UInt8) then (laws_FnSort.j0 k t701 t704 false) else ((laws_has.f k t707 t710).bind fun t716 => (laws_FnSort.j0 k t701 t704 (!t716)))) else (laws_FnSort.j0 k t701 t704 true))) else (laws_FnSort.j0 k t701 t704 true)))))))))
theorem laws_FnSort.mono_l : ∀ k, (∀ y0 y1 y2, LeO (laws_FnSort.j0 k y0 y1 y2) (laws_FnSort.j0 (k + 1) y0 y1 y2)) ∧ (∀ y0 y1 y2, LeO (laws_FnSort.l0 k y0 y1 y2) (laws_FnSort.l0 (k + 1) y0 y1 y2)) ∧ (∀ y0 y1 y2 y3 y4 y5 y6 y7, LeO (laws_FnSort.j2 k y0 y1 y2 y3 y4 y5 y6 y7) (laws_FnSort.j2 (k + 1) y0 y1 y2 y3 y4 y5 y6 y7)) ∧ (∀ y0 y1 y2, LeO (laws_FnSort.l1 k y0 y1 y2) (laws_FnSort.l1 (k + 1) y0 y1 y2))
 | 0 => ⟨fun _ _ _ r h => by simp [laws_FnSort.j0] at h, fun _ _ _ r h => by simp [laws_FnSort.l0] at h, fun _ _ _ _ _ _ _ _ r h => by simp [laws_FnSort.j2] at h, fun _ _ _ r h => by simp [laws_FnSort.l1] at h⟩
 | k + 1 => by
  obtain ⟨ih0, ih1, ih2, ih3⟩ := laws_FnSort.mono_l k
  refine ⟨?_, ?_, ?_, ?_⟩
  ·intro y0 y1 y2
   unfold laws_FnSort.j0
   repeat' first
   | (with_reducible exact ih0 _ _ _)
   | (with_reducible exact ih1 _ _ _)
   | (with_reducible exact ih2 _ _ _ _ _ _ _ _)
   | (with_reducible exact ih3 _ _ _)
   | (with_reducible exact impl_CompareVersion.mono _ _ _ _ _ _ _ _ _)
   | (with_reducible exact impl_Newest.mono _ _)
   | (with_reducible exact impl_ReadVersion.mono _ _)
   | (with_reducible exact laws_has.mono _ _ _)
   | (with_reducible exact laws_sameTexts.mono _ _ _)
   | (with_reducible exact spec_DrawNewest.mono _ _)
   | (with_reducible exact spec_DrawSortVersions.mono _ _)
   | (with_reducible exact spec_Newest.mono _ _)
   | (with_reducible exact spec_SortVersions.mono _ _)
   | (with_reducible exact LeO.refl _)
   | (with_reducible exact LeO.none _)
   | (with_reducible refine LeO.ite ?_ ?_)
   | (with_reducible refine LeO.bind ?_ (fun _ => ?_))
   | exact ih0 _ _ _
   | exact ih1 _ _ _
   | exact ih2 _ _ _ _ _ _ _ _
   | exact ih3 _ _ _
   | exact impl_CompareVersion.mono _ _ _ _ _ _ _ _ _
   | exact impl_Newest.mono _ _
   | exact impl_ReadVersion.mono _ _
   | exact laws_has.mono _ _ _
   | exact laws_sameTexts.mono _ _ _
   | exact spec_DrawNewest.mono _ _
   | exact spec_DrawSortVersions.mono _ _
   | exact spec_Newest.mono _ _
   | exact spec_SortVersions.mono _ _
   | exact LeO.none _
   | refine LeO.ite ?_ ?_
   | refine LeO.bind ?_ (fun _ => ?_)
  ·intro y0 y1 y2
   unfold laws_FnSort.l0
   repeat' first
   | (with_reducible exact ih0 _ _ _)
   | (with_reducible exact ih1 _ _ _)
   | (with_reducible exact ih2 _ _ _ _ _ _ _ _)
   | (with_reducible exact ih3 _ _ _)
   | (with_reducible exact impl_CompareVersion.mono _ _ _ _ _ _ _ _ _)
   | (with_reducible exact impl_Newest.mono _ _)
   | (with_reducible exact impl_ReadVersion.mono _ _)
   | (with_reducible exact laws_has.mono _ _ _)
   | (with_reducible exact laws_sameTexts.mono _ _ _)
   | (with_reducible exact spec_DrawNewest.mono _ _)
   | (with_reducible exact spec_DrawSortVersions.mono _ _)
   | (with_reducible exact spec_Newest.mono _ _)
   | (with_reducible exact spec_SortVersions.mono _ _)
   | (with_reducible exact LeO.refl _)
   | (with_reducible exact LeO.none _)
   | (with_reducible refine LeO.ite ?_ ?_)
   | (with_reducible refine LeO.bind ?_ (fun _ => ?_))
   | exact ih0 _ _ _
   | exact ih1 _ _ _
   | exact ih2 _ _ _ _ _ _ _ _
   | exact ih3 _ _ _
   | exact impl_CompareVersion.mono _ _ _ _ _ _ _ _ _
   | exact impl_Newest.mono _ _
   | exact impl_ReadVersion.mono _ _
   | exact laws_has.mono _ _ _
   | exact laws_sameTexts.mono _ _ _
   | exact spec_DrawNewest.mono _ _
   | exact spec_DrawSortVersions.mono _ _
   | exact spec_Newest.mono _ _
   | exact spec_SortVersions.mono _ _
   | exact LeO.none _
   | refine LeO.ite ?_ ?_
   | refine LeO.bind ?_ (fun _ => ?_)
  ·intro y0 y1 y2 y3 y4 y5 y6 y7
   unfold laws_FnSort.j2
   repeat' first
   | (with_reducible exact ih0 _ _ _)
   | (with_reducible exact ih1 _ _ _)
   | (with_reducible exact ih2 _ _ _ _ _ _ _ _)
   | (with_reducible exact ih3 _ _ _)
   | (with_reducible exact impl_CompareVersion.mono _ _ _ _ _ _ _ _ _)
   | (with_reducible exact impl_Newest.mono _ _)
   | (with_reducible exact impl_ReadVersion.mono _ _)
   | (with_reducible exact laws_has.mono _ _ _)
   | (with_reducible exact laws_sameTexts.mono _ _ _)
   | (with_reducible exact spec_DrawNewest.mono _ _)
   | (with_reducible exact spec_DrawSortVersions.mono _ _)
   | (with_reducible exact spec_Newest.mono _ _)
   | (with_reducible exact spec_SortVersions.mono _ _)
   | (with_reducible exact LeO.refl _)
   | (with_reducible exact LeO.none _)
   | (with_reducible refine LeO.ite ?_ ?_)
   | (with_reducible refine LeO.bind ?_ (fun _ => ?_))
   | exact ih0 _ _ _
   | exact ih1 _ _ _
   | exact ih2 _ _ _ _ _ _ _ _
   | exact ih3 _ _ _
   | exact impl_CompareVersion.mono _ _ _ _ _ _ _ _ _
   | exact impl_Newest.mono _ _
   | exact impl_ReadVersion.mono _ _
   | exact laws_has.mono _ _ _
   | exact laws_sameTexts.mono _ _ _
   | exact spec_DrawNewest.mono _ _
   | exact spec_DrawSortVersions.mono _ _
   | exact spec_Newest.mono _ _
   | exact spec_SortVersions.mono _ _
   | exact LeO.none _
   | refine LeO.ite ?_ ?_
   | refine LeO.bind ?_ (fun _ => ?_)
  ·intro y0 y1 y2
   unfold laws_FnSort.l1
   repeat' first
   | (with_reducible exact ih0 _ _ _)
   | (with_reducible exact ih1 _ _ _)
   | (with_reducible exact ih2 _ _ _ _ _ _ _ _)
   | (with_reducible exact ih3 _ _ _)
   | (with_reducible exact impl_CompareVersion.mono _ _ _ _ _ _ _ _ _)
   | (with_reducible exact impl_Newest.mono _ _)
   | (with_reducible exact impl_ReadVersion.mono _ _)
   | (with_reducible exact laws_has.mono _ _ _)
   | (with_reducible exact laws_sameTexts.mono _ _ _)
   | (with_reducible exact spec_DrawNewest.mono _ _)
   | (with_reducible exact spec_DrawSortVersions.mono _ _)
   | (with_reducible exact spec_Newest.mono _ _)
   | (with_reducible exact spec_SortVersions.mono _ _)
   | (with_reducible exact LeO.refl _)
   | (with_reducible exact LeO.none _)
   | (with_reducible refine LeO.ite ?_ ?_)
   | (with_reducible refine LeO.bind ?_ (fun _ => ?_))
   | exact ih0 _ _ _
   | exact ih1 _ _ _
   | exact ih2 _ _ _ _ _ _ _ _
   | exact ih3 _ _ _
   | exact impl_CompareVersion.mono _ _ _ _ _ _ _ _ _
   | exact impl_Newest.mono _ _
   | exact impl_ReadVersion.mono _ _
   | exact laws_has.mono _ _ _
   | exact laws_sameTexts.mono _ _ _
   | exact spec_DrawNewest.mono _ _
   | exact spec_DrawSortVersions.mono _ _
   | exact spec_Newest.mono _ _
   | exact spec_SortVersions.mono _ _
   | exact LeO.none _
   | refine LeO.ite ?_ ?_
   | refine LeO.bind ?_ (fun _ => ?_)
theorem laws_FnSort.mono : ∀ a0 k, LeO (laws_FnSort.f k a0) (laws_FnSort.f (k + 1) a0) := by
 intro a0 k
 obtain ⟨ih0, ih1, ih2, ih3⟩ := laws_FnSort.mono_l k
 unfold laws_FnSort.f
 repeat' first
   | (with_reducible exact ih0 _ _ _)
   | (with_reducible exact ih1 _ _ _)
   | (with_reducible exact ih2 _ _ _ _ _ _ _ _)
   | (with_reducible exact ih3 _ _ _)
   | (with_reducible exact impl_CompareVersion.mono _ _ _ _ _ _ _ _ _)
   | (with_reducible exact impl_Newest.mono _ _)
   | (with_reducible exact impl_ReadVersion.mono _ _)
   | (with_reducible exact laws_has.mono _ _ _)
   | (with_reducible exact laws_sameTexts.mono _ _ _)
   | (with_reducible exact spec_DrawNewest.mono _ _)
   | (with_reducible exact spec_DrawSortVersions.mono _ _)
   | (with_reducible exact spec_Newest.mono _ _)
   | (with_reducible exact spec_SortVersions.mono _ _)
   | (with_reducible exact LeO.refl _)
   | (with_reducible exact LeO.none _)
   | (with_reducible refine LeO.ite ?_ ?_)
   | (with_reducible refine LeO.bind ?_ (fun _ => ?_))
   | exact ih0 _ _ _
   | exact ih1 _ _ _
   | exact ih2 _ _ _ _ _ _ _ _
   | exact ih3 _ _ _
   | exact impl_CompareVersion.mono _ _ _ _ _ _ _ _ _
   | exact impl_Newest.mono _ _
   | exact impl_ReadVersion.mono _ _
   | exact laws_has.mono _ _ _
   | exact laws_sameTexts.mono _ _ _
   | exact spec_DrawNewest.mono _ _
   | exact spec_DrawSortVersions.mono _ _
   | exact spec_Newest.mono _ _
   | exact spec_SortVersions.mono _ _
   | exact LeO.none _
   | refine LeO.ite ?_ ?_
   | refine LeO.bind ?_ (fun _ => ?_)
def laws_FnSort.Pure : Prop := ∀ (l0 : List Int), (l0.length ≤ maxLen ∧ ∀ x_ ∈ l0, (Lit.int .u8 x_).wf = true) → ∃ k, laws_FnSort.f k l0 = some true
end Go.Proofs.YtcfeihimmboghaaGreatDoor.G

end
