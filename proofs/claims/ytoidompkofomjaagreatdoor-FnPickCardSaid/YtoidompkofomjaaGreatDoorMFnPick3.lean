/- A part of the proof that the law FnPick answers true at every input that its row speaks of. Conditions: the row's own. -/
import Derived.Test.YtoidompkofomjaaGreatDoorMFnPick2
import Derived.Test.YtoidompkofomjaaGreatDoorKFnPick0
import Derived.Test.YtoidompkofomjaaGreatDoorKFnPick1
import Derived.Test.YtoidompkofomjaaGreatDoorMFnPick0
import Derived.Calls
import Derived.LoopN
import Derived.Orders
import Derived.RowKit
import Derived.Laws.AppendOwn
import Derived.Laws.MakeOwn
import Derived.Deep.Draws
import Derived.Below
import Derived.Laws.BytesArg
section
namespace Go.Proofs.YtoidompkofomjaaGreatDoor.U
open Go Go.RowKit Go.Proofs.YtoidompkofomjaaGreatDoorW.PrintWords Go.Proofs.YtoidompkofomjaaGreatDoor.G
set_option linter.unusedVariables false
set_option linter.unusedSimpArgs false
theorem cmpI_impl (a b : Int) : impl_compareInts.f a b = some (cmpI a b) := by
  unfold impl_compareInts.f cmpI
  by_cases h : a < b
  · rw [if_pos h, if_pos h]
  · rw [if_neg h, if_neg h]
    by_cases h2 : b < a
    · rw [if_pos (show a > b from h2), if_pos h2]
    · rw [if_neg (show ¬ a > b from h2), if_neg h2]
theorem cmpI_spec (a b : Int) : spec_l02Less.f a b = some (cmpI a b) := by
  unfold spec_l02Less.f cmpI
  by_cases h : a < b
  · rw [if_pos h, if_pos h]
  · rw [if_neg h, if_neg h]
    by_cases h2 : b < a
    · rw [if_pos (show a > b from h2), if_pos h2]
    · rw [if_neg (show ¬ a > b from h2), if_neg h2]
theorem spec_l02Texts_eq (a b : ByteArray) : spec_l02Texts.f a b = some (Lib.compareBytes (L a) (L b)) := by
  unfold spec_l02Texts.f
  rw [toList_L, toList_L, ← text_less]
  by_cases h : Op.bytesLess (L a) (L b) = true
  · rw [if_pos h, if_pos h]
  · rw [if_neg h, if_neg h]
    by_cases h2 : Op.bytesLess (L b) (L a) = true
    · rw [if_pos h2, if_pos h2]
    · rw [if_neg h2, if_neg h2]
theorem compare_eq (a b : ByteArray) : strings_Compare.f a b = some (Lib.compareBytes (L a) (L b)) := rfl
theorem spec_l02Part_ev (a b : ByteArray) (ha : a.size ≤ 1099511627776) (hb : b.size ≤ 1099511627776) : Ev (fun k => spec_l02Part.f k a b) (cmpP (L a) (L b)) := by
  unfold spec_l02Part.f cmpP
  refine Ev.bind (spec_ReadDec_ev a ha) (Ev.bind (spec_ReadDec_ev b hb) ?_)
  by_cases h1 : 0 ≤ rdec (L a)
  · rw [if_pos h1]
    refine ev_pos h1 ?_
    by_cases h2 : 0 ≤ rdec (L b)
    · rw [if_pos h2]
      refine Ev.step (f := fun _ => some (cmpI (rdec (L a)) (rdec (L b)))) (fun k => ?_) (Ev.now _)
      rw [spec_l02Part.j0, if_pos (decide_eq_true h2), cmpI_spec]; rfl
    · rw [if_neg h2]
      refine Ev.step (f := fun _ => some (-1)) (fun k => ?_) (Ev.now _)
      rw [spec_l02Part.j0, if_neg (by simpa using h2), if_pos h1]
  · rw [if_neg h1]
    refine ev_neg h1 ?_
    by_cases h2 : 0 ≤ rdec (L b)
    · rw [if_pos h2]
      refine Ev.step (f := fun _ => some 1) (fun k => ?_) (Ev.now _)
      rw [spec_l02Part.j0, if_neg (by decide), if_neg h1, if_pos h2]
    · rw [if_neg h2]
      refine Ev.step (f := fun _ => some (Lib.compareBytes (L a) (L b))) (fun k => ?_) (Ev.now _)
      rw [spec_l02Part.j0, if_neg (by decide), if_neg h1, if_neg h2, spec_l02Texts_eq]; rfl
theorem cmpL_end (l m : List ByteArray) (i : Nat) (h : (i = l.length ∧ i ≤ m.length) ∨ (i = m.length ∧ i ≤ l.length)) : cmpL ((l.drop i).map L) ((m.drop i).map L) = cmpI l.length m.length := by
  unfold cmpI
  by_cases h1 : l.length = i
  · rw [List.drop_of_length_le (by omega)]
    by_cases h2 : m.length = i
    · rw [List.drop_of_length_le (by omega), if_neg (by omega), if_neg (by omega)]; rfl
    · rw [drop_getD m i ByteArray.empty (by omega), if_pos (by omega)]; rfl
  · rw [drop_getD l i ByteArray.empty (by omega), List.drop_of_length_le (show m.length ≤ i by omega), if_neg (by omega), if_pos (by omega)]; rfl
theorem spec_cmp_l1 (a b c : Int) (l : List ByteArray) (a' b' c' : Int) (m : List ByteArray) (hl : l.length ≤ 1048577) (hs : ∀ x ∈ l, x.size ≤ 1048576) (ht : ∀ x ∈ m, x.size ≤ 1048576) : ∀ d i, i + d = l.length → i ≤ m.length →
    Ev (fun k => spec_CompareVersion.l1 k (i : Int) a b c l a' b' c' m) (cmpL ((l.drop i).map L) ((m.drop i).map L)) := by
  intro d
  induction d with
  | zero =>
    intro i hi hm
    rw [cmpL_end l m i (Or.inl ⟨by omega, hm⟩)]
    refine Ev.step (f := fun k => spec_CompareVersion.j3 k (i : Int) false a b c l a' b' c' m) (fun k => by rw [spec_CompareVersion.l1, if_neg (by omega)]) ?_
    exact Ev.step (f := fun _ => some (cmpI l.length m.length)) (fun k => by rw [spec_CompareVersion.j3, if_neg (by decide), cmpI_spec]; rfl) (Ev.now _)
  | succ d ih =>
    intro i hi hm
    refine Ev.step (f := fun k => spec_CompareVersion.j3 k (i : Int) (decide ((i : Int) < (m.length : Int))) a b c l a' b' c' m) (fun k => by rw [spec_CompareVersion.l1, if_pos (by omega)]) ?_
    by_cases h : i < m.length
    · have e1 : rdOf ByteArray.empty l (i : Int) = l.getD i ByteArray.empty := rfl
      have e2 : rdOf ByteArray.empty m (i : Int) = m.getD i ByteArray.empty := rfl
      have p1 := hs _ (getD_mem l i ByteArray.empty (by omega))
      have p2 := ht _ (getD_mem m i ByteArray.empty h)
      rw [drop_getD l i ByteArray.empty (by omega), drop_getD m i ByteArray.empty h, List.map_cons, List.map_cons, cmpL]
      refine Ev.step (f := fun k => (spec_l02Part.f k (l.getD i ByteArray.empty) (m.getD i ByteArray.empty)).bind fun t => if t = 0 then spec_CompareVersion.l1 k ((i + 1 : Nat) : Int) a b c l a' b' c' m else some t) (fun k => ?_) (Ev.bind (spec_l02Part_ev _ _ (by omega) (by omega)) ?_)
      · rw [spec_CompareVersion.j3, if_pos (decide_eq_true (by omega)), if_pos (by omega), if_pos (by omega), if_pos (by omega), e1, e2, wa1 i (by omega)]
      · by_cases hz : cmpP (L (l.getD i ByteArray.empty)) (L (m.getD i ByteArray.empty)) = 0
        · rw [if_pos hz]; exact ev_pos hz (ih (i + 1) (by omega) (by omega))
        · rw [if_neg hz]; exact ev_neg hz (Ev.now _)
    · rw [cmpL_end l m i (Or.inr ⟨by omega, by omega⟩)]
      exact Ev.step (f := fun _ => some (cmpI l.length m.length)) (fun k => by rw [spec_CompareVersion.j3, if_neg (by rw [decide_eq_true_iff]; omega), cmpI_spec]; rfl) (Ev.now _)
theorem map_nil {l : List ByteArray} : l.map L = [] ↔ l = [] := List.map_eq_nil_iff
theorem cmp_tail (l m : List ByteArray) : (if l.map L = [] ∨ m.map L = [] then cmpI (m.map L).length (l.map L).length else cmpL (l.map L) (m.map L)) = if l = [] ∨ m = [] then cmpI m.length l.length else cmpL (l.map L) (m.map L) := by
  by_cases h : l = [] ∨ m = []
  · rw [if_pos h, if_pos (h.imp map_nil.2 map_nil.2), List.length_map, List.length_map]
  · rw [if_neg h, if_neg fun k => h (k.imp map_nil.1 map_nil.1)]
theorem spec_CompareVersion_ev (a b c : Int) (l : List ByteArray) (a' b' c' : Int) (m : List ByteArray) (hl : l.length ≤ 1048577) (hs : ∀ x ∈ l, x.size ≤ 1048576) (ht : ∀ x ∈ m, x.size ≤ 1048576) : Ev (fun k => spec_CompareVersion.f k a b c l a' b' c' m) (cmpV a b c (l.map L) a' b' c' (m.map L)) := by
  unfold spec_CompareVersion.f cmpV
  refine ev_const (cmpI_spec _ _) (ev_const (cmpI_spec _ _) (ev_const (cmpI_spec _ _) ?_))
  generalize cmpI a a' = x
  generalize cmpI b b' = y
  generalize cmpI c c' = z
  have h3 : Ev (fun k => spec_CompareVersion.l0 k [x, y, z] ((2 + 1 : Nat) : Int) a b c l a' b' c' m) (if l.map L = [] ∨ m.map L = [] then cmpI (m.map L).length (l.map L).length else cmpL (l.map L) (m.map L)) := by
    rw [cmp_tail]
    have e : ∀ k, spec_CompareVersion.l0 (k + 1) [x, y, z] ((2 + 1 : Nat) : Int) a b c l a' b' c' m = spec_CompareVersion.j1 k (decide (l = [] ∨ m = [])) a b c l a' b' c' m := fun k => by
      rw [spec_CompareVersion.l0, if_neg (by omega)]
      cases l with
      | nil => rw [if_pos (by simp)]; simp
      | cons p l =>
        rw [if_neg (by rw [List.length_cons]; omega)]
        cases m with
        | nil => simp
        | cons q m => rw [beq_eq_false_iff_ne.2 (show ¬ ((q :: m).length : Int) = 0 by rw [List.length_cons]; omega)]; simp
    refine Ev.step e ?_
    by_cases h : l = [] ∨ m = []
    · rw [if_pos h]
      exact Ev.step (f := fun _ => some (cmpI m.length l.length)) (fun k => by rw [spec_CompareVersion.j1, if_pos (decide_eq_true h), cmpI_spec]; rfl) (Ev.now _)
    · rw [if_neg h]
      refine Ev.step (fun k => ?_) (spec_cmp_l1 a b c l a' b' c' m hl hs ht l.length 0 (by omega) (by omega))
      rw [spec_CompareVersion.j1, if_neg (by simpa using h)]; rfl
  have st : ∀ (i : Nat), i < 3 → ∀ {q : Int}, Ev (fun k => spec_CompareVersion.l0 k [x, y, z] ((i + 1 : Nat) : Int) a b c l a' b' c' m) q → Ev (fun k => spec_CompareVersion.l0 k [x, y, z] (i : Int) a b c l a' b' c' m) (if rd [x, y, z] (i : Int) = 0 then q else rd [x, y, z] (i : Int)) := by
    intro i hi q hq
    by_cases h : rd [x, y, z] (i : Int) = 0
    · rw [if_pos h]
      refine Ev.step (fun k => ?_) hq
      rw [spec_CompareVersion.l0, if_pos (by omega), if_pos (by omega), if_pos (by simp; omega), if_pos h, wa1 i (by omega)]
    · rw [if_neg h]
      refine Ev.step (f := fun _ => some (rd [x, y, z] (i : Int))) (fun k => ?_) (Ev.now _)
      rw [spec_CompareVersion.l0, if_pos (by omega), if_pos (by omega), if_pos (by simp; omega), if_neg h]
  exact st 0 (by omega) (st 1 (by omega) (st 2 (by omega) h3))
theorem num_rdec {l : B} (h : preOk l = true) : isNum l = decide (0 ≤ rdec l) := by
  unfold preOk at h
  simp only [Bool.and_eq_true, Bool.or_eq_true, Bool.not_eq_true', decide_eq_true_eq] at h
  by_cases h1 : isNum l = true
  · rw [h1]
    rcases h.2.2 with h2 | h2
    · rw [h1] at h2; cases h2
    · rw [decide_eq_true h2]
  · rw [Bool.not_eq_true] at h1
    rw [h1]
    by_cases h2 : 0 ≤ rdec l
    · obtain ⟨u, _, e, _⟩ := rdec_some (l := l) (by omega)
      exfalso
      unfold isNum at h1
      rw [e] at h1
      have h3 : (Lib.decDigits u).all dgt = true := List.all_eq_true.2 (dec_dgt u)
      have h4 : (Lib.decDigits u != []) = true := bne_iff_ne.2 (dec_ne u)
      rw [h3, h4] at h1; cases h1
    · rw [decide_eq_false h2]
theorem trim0 (s : ByteArray) (hs : s.size ≤ 1048576) : strings_TrimLeft.f s (⟨#[48]⟩ : ByteArray) = some (S (stripz (L s))) := by
  unfold strings_TrimLeft.f
  rw [dif_pos (show (⟨#[48]⟩ : ByteArray).size = 1 from rfl), if_pos ⟨by decide, by omega⟩]
  rfl
theorem impl_comparePre_ev (a b : ByteArray) (ha : preOk (L a) = true) (hb : preOk (L b) = true) : Ev (fun k => impl_comparePre.f k a b) (cmpP (L a) (L b)) := by
  have la := preOk_len ha
  have lb := preOk_len hb
  rw [← size_L] at la lb
  unfold impl_comparePre.f cmpP
  refine Ev.bind (impl_isNumber_ev a (by omega)) (Ev.bind (impl_isNumber_ev b (by omega)) ?_)
  rw [num_rdec ha, num_rdec hb]
  by_cases h1 : 0 ≤ rdec (L a)
  · rw [if_pos h1]
    refine ev_pos (decide_eq_true h1) ?_
    by_cases h2 : 0 ≤ rdec (L b)
    · rw [if_pos h2]
      have hc := cmp_strip h1 h2
      refine Ev.step (f := fun _ => some (cmpI (rdec (L a)) (rdec (L b)))) (fun k => ?_) (Ev.now _)
      rw [impl_comparePre.j0, if_pos (decide_eq_true h2), trim0 a (by omega), Option.bind_some, trim0 b (by omega), Option.bind_some, cmpI_impl, Option.bind_some, size_S, size_S, compare_eq, Option.bind_some, L_S, L_S, ← hc]
      by_cases h3 : cmpI (stripz (L a)).length (stripz (L b)).length = 0
      · rw [if_pos h3, if_pos h3]
      · rw [if_neg h3, if_neg h3]
    · rw [if_neg h2]
      refine Ev.step (f := fun _ => some (-1)) (fun k => ?_) (Ev.now _)
      rw [impl_comparePre.j0, if_neg (by simpa using h2), if_pos (decide_eq_true h1)]
  · rw [if_neg h1]
    refine ev_neg (by simpa using h1) ?_
    by_cases h2 : 0 ≤ rdec (L b)
    · rw [if_pos h2]
      refine Ev.step (f := fun _ => some 1) (fun k => ?_) (Ev.now _)
      rw [impl_comparePre.j0, if_neg (by decide), if_neg (by simpa using h1), if_pos (decide_eq_true h2)]
    · rw [if_neg h2]
      refine Ev.step (f := fun _ => some (Lib.compareBytes (L a) (L b))) (fun k => ?_) (Ev.now _)
      rw [impl_comparePre.j0, if_neg (by decide), if_neg (by simpa using h1), if_neg (by simpa using h2), compare_eq]; rfl
theorem mn_nat (a b : Nat) : mn (a : Int) (b : Int) = ((min a b : Nat) : Int) := by
  unfold mn
  split <;> omega
theorem impl_cmp_l1 (a b c : Int) (l : List ByteArray) (a' b' c' : Int) (m : List ByteArray) (hl : l.length ≤ 1048577) (hs : ∀ x ∈ l, preOk (L x) = true) (ht : ∀ x ∈ m, preOk (L x) = true) : ∀ d i, i + d = min l.length m.length →
    Ev (fun k => impl_CompareVersion.l1 k ((min l.length m.length : Nat) : Int) (i : Int) a b c l a' b' c' m) (cmpL ((l.drop i).map L) ((m.drop i).map L)) := by
  intro d
  induction d with
  | zero =>
    intro i hi
    rw [cmpL_end l m i (by omega)]
    exact Ev.step (f := fun _ => some (cmpI l.length m.length)) (fun k => by rw [impl_CompareVersion.l1, if_neg (by omega), cmpI_impl]; rfl) (Ev.now _)
  | succ d ih =>
    intro i hi
    have e1 : rdOf ByteArray.empty l (i : Int) = l.getD i ByteArray.empty := rfl
    have e2 : rdOf ByteArray.empty m (i : Int) = m.getD i ByteArray.empty := rfl
    have p1 := hs _ (getD_mem l i ByteArray.empty (by omega))
    have p2 := ht _ (getD_mem m i ByteArray.empty (by omega))
    rw [drop_getD l i ByteArray.empty (by omega), drop_getD m i ByteArray.empty (by omega), List.map_cons, List.map_cons, cmpL]
    refine Ev.step (f := fun k => (impl_comparePre.f k (l.getD i ByteArray.empty) (m.getD i ByteArray.empty)).bind fun t => if t = 0 then impl_CompareVersion.l1 k ((min l.length m.length : Nat) : Int) ((i + 1 : Nat) : Int) a b c l a' b' c' m else some t) (fun k => ?_) (Ev.bind (impl_comparePre_ev _ _ p1 p2) ?_)
    · rw [impl_CompareVersion.l1, if_pos (by omega), if_pos (by omega), if_pos (by omega), if_pos (by omega), e1, e2, wa1 i (by omega)]
    · by_cases hz : cmpP (L (l.getD i ByteArray.empty)) (L (m.getD i ByteArray.empty)) = 0
      · rw [if_pos hz]; exact ev_pos hz (ih (i + 1) (by omega))
      · rw [if_neg hz]; exact ev_neg hz (Ev.now _)
theorem impl_CompareVersion_ev (a b c : Int) (l : List ByteArray) (a' b' c' : Int) (m : List ByteArray) (hl : l.length ≤ 1048577) (hs : ∀ x ∈ l, preOk (L x) = true) (ht : ∀ x ∈ m, preOk (L x) = true) : Ev (fun k => impl_CompareVersion.f k a b c l a' b' c' m) (cmpV a b c (l.map L) a' b' c' (m.map L)) := by
  unfold impl_CompareVersion.f cmpV
  refine ev_const (cmpI_impl _ _) (ev_const (cmpI_impl _ _) (ev_const (cmpI_impl _ _) (ev_some ?_)))
  generalize cmpI a a' = x
  generalize cmpI b b' = y
  generalize cmpI c c' = z
  have h3 : Ev (fun k => impl_CompareVersion.l0 k [x, y, z] (([x, y, z] : List Int).length : Int) ((2 + 1 : Nat) : Int) a b c l a' b' c' m) (if l.map L = [] ∨ m.map L = [] then cmpI (m.map L).length (l.map L).length else cmpL (l.map L) (m.map L)) := by
    rw [cmp_tail]
    have go := impl_cmp_l1 a b c l a' b' c' m hl hs ht _ 0 (Nat.zero_add _)
    by_cases h : ((((l.length : Int)) == 0) != (((m.length : Int)) == 0)) = true
    · have h' : l = [] ∨ m = [] := by
        cases l with
        | nil => exact Or.inl rfl
        | cons p l =>
          cases m with
          | nil => exact Or.inr rfl
          | cons q m =>
            exfalso
            have e1 : (((p :: l).length : Int) == 0) = false := beq_eq_false_iff_ne.2 (by rw [List.length_cons]; omega)
            have e2 : (((q :: m).length : Int) == 0) = false := beq_eq_false_iff_ne.2 (by rw [List.length_cons]; omega)
            rw [e1, e2] at h; cases h
      rw [if_pos h']
      exact Ev.step (f := fun _ => some (cmpI m.length l.length)) (fun k => by rw [impl_CompareVersion.l0, if_neg (by simp), if_pos h, cmpI_impl]; rfl) (Ev.now _)
    · have e : (if l = [] ∨ m = [] then cmpI m.length l.length else cmpL (l.map L) (m.map L)) = cmpL (l.map L) (m.map L) := by
        by_cases h' : l = [] ∨ m = []
        · have hb : l = [] ∧ m = [] := by
            cases l with
            | nil =>
              cases m with
              | nil => exact ⟨rfl, rfl⟩
              | cons q m =>
                exfalso; apply h
                have e2 : (((q :: m).length : Int) == 0) = false := beq_eq_false_iff_ne.2 (by rw [List.length_cons]; omega)
                rw [e2]; rfl
            | cons p l =>
              cases m with
              | nil =>
                exfalso; apply h
                have e1 : (((p :: l).length : Int) == 0) = false := beq_eq_false_iff_ne.2 (by rw [List.length_cons]; omega)
                rw [e1]; rfl
              | cons q m => simp at h'
          obtain ⟨rfl, rfl⟩ := hb
          rfl
        · rw [if_neg h']
      rw [e]
      refine Ev.step (fun k => ?_) go
      rw [impl_CompareVersion.l0, if_neg (by simp), if_neg h, mn_nat]; rfl
  have st : ∀ (i : Nat), i < 3 → ∀ {q : Int}, Ev (fun k => impl_CompareVersion.l0 k [x, y, z] (([x, y, z] : List Int).length : Int) ((i + 1 : Nat) : Int) a b c l a' b' c' m) q → Ev (fun k => impl_CompareVersion.l0 k [x, y, z] (([x, y, z] : List Int).length : Int) (i : Int) a b c l a' b' c' m) (if rd [x, y, z] (i : Int) = 0 then q else rd [x, y, z] (i : Int)) := by
    intro i hi q hq
    by_cases h : rd [x, y, z] (i : Int) = 0
    · rw [if_pos h]
      refine Ev.step (fun k => ?_) hq
      rw [impl_CompareVersion.l0, if_pos (by simp; omega), if_pos (by omega), if_pos (by simp; omega), if_pos h, wa1 i (by omega)]
    · rw [if_neg h]
      refine Ev.step (f := fun _ => some (rd [x, y, z] (i : Int))) (fun k => ?_) (Ev.now _)
      rw [impl_CompareVersion.l0, if_pos (by simp; omega), if_pos (by omega), if_pos (by simp; omega), if_neg h]
  exact st 0 (by omega) (st 1 (by omega) (st 2 (by omega) h3))
theorem ver_good (l : B) : (readVer l).2.2.2.1.length ≤ 5 ∧ ∀ x ∈ (readVer l).2.2.2.1, preOk (L x) = true := by
  unfold readVer
  split
  · rename_i hc
    have hv : verOk (vpart l 0) (vpart l 1) (vpart l 2) (vpre l) = true := by
      by_cases h : verOk (vpart l 0) (vpart l 1) (vpart l 2) (vpre l) = true
      · exact h
      · exfalso
        have := hc.2
        unfold vtext at this
        rw [if_neg h] at this
        exact three_ne hc.1 this.symm
    obtain ⟨_, _, _, h5, h6⟩ := verOk_is hv
    exact ⟨h5, h6⟩
  · exact ⟨by simp [zeroV], fun x hx => by simp [zeroV] at hx⟩
theorem ver_sizes (l : B) : ∀ x ∈ (readVer l).2.2.2.1, x.size ≤ 1048576 := fun x hx => by
  have := preOk_len ((ver_good l).2 x hx)
  rw [size_L]; omega
def cmpS (x y : B) : Int := cmpV (readVer x).1 (readVer x).2.1 (readVer x).2.2.1 ((readVer x).2.2.2.1.map L) (readVer y).1 (readVer y).2.1 (readVer y).2.2.1 ((readVer y).2.2.2.1.map L)
def verK (x : B) : List Int := kV (readVer x).1 (readVer x).2.1 (readVer x).2.2.1 ((readVer x).2.2.2.1.map L)
theorem cmpS_keyed : Keyed cmpS verK := fun x y => (lex_kV _ _ _ _ _ _ _ _).symm
theorem map_L_inj : ∀ {l m : List ByteArray}, l.map L = m.map L → l = m
  | [], [], _ => rfl
  | [], _ :: _, h => by simp at h
  | _ :: _, [], h => by simp at h
  | x :: l, y :: m, h => by
    rw [List.map_cons, List.map_cons, List.cons.injEq] at h
    rw [L_inj h.1, map_L_inj h.2]
theorem cmpS_inj {x y : B} (hx : isVer x = true) (hy : isVer y = true) (h : cmpS x y = 0) : x = y := by
  obtain ⟨a, b, c, p, e1, e2⟩ := isVer_text hx
  obtain ⟨a', b', c', p', e3, e4⟩ := isVer_text hy
  unfold cmpS at h
  rw [e2, e4] at h
  obtain ⟨h1, h2, h3, h4⟩ := cmpV_zero h
  have h4' := map_L_inj h4
  simp only at h1 h2 h3 h4'
  rw [← e1, ← e3, h1, h2, h3, h4']
theorem impl_compareTexts_ev (s t : ByteArray) (hs : s.size ≤ 1048576) (ht : t.size ≤ 1048576) : Ev (fun k => impl_compareTexts.f k s t) (cmpS (L s) (L t)) := by
  unfold impl_compareTexts.f
  have h1 := ver_good (L s)
  have h2 := ver_good (L t)
  exact Ev.bind (impl_ReadVersion_ev s hs) (Ev.bind (impl_ReadVersion_ev t ht) (Ev.bind (impl_CompareVersion_ev _ _ _ _ _ _ _ _ (by omega) h1.2 h2.2) (Ev.now _)))
theorem spec_compare_ev (x y : B) : Ev (fun k => spec_CompareVersion.f k (readVer x).1 (readVer x).2.1 (readVer x).2.2.1 (readVer x).2.2.2.1 (readVer y).1 (readVer y).2.1 (readVer y).2.2.1 (readVer y).2.2.2.1) (cmpS x y) :=
  spec_CompareVersion_ev _ _ _ _ _ _ _ _ (by have := (ver_good x).1; omega) (ver_sizes x) (ver_sizes y)
theorem isVersion_ev (s : ByteArray) (hs : s.size ≤ 1048576) : Ev (fun k => impl_isVersion.f k s) (isVer (L s)) := by
  unfold impl_isVersion.f isVer
  exact Ev.bind (impl_ReadVersion_ev s hs) (Ev.now _)
theorem pre_ev (l : List ByteArray) (hl : l.length ≤ 1048576) (hs : ∀ x ∈ l, x.size ≤ 1048576) : Ev (fun k => impl_SortPre.f k l) (l.filter fun s => isVer (L s)) := by
  unfold impl_SortPre.f
  have key : ∀ d i (acc : List ByteArray), i + d = l.length → acc.length ≤ i → Ev (fun k => impl_SortPre.l0 k acc l (l.length : Int) (i : Int)) (acc ++ (l.drop i).filter fun s => isVer (L s)) := by
    intro d
    induction d with
    | zero =>
      intro i acc hi ha
      rw [List.drop_of_length_le (by omega), List.filter_nil, List.append_nil]
      exact Ev.step (f := fun _ => some acc) (fun k => by rw [impl_SortPre.l0, if_neg (by omega)]) (Ev.now _)
    | succ d ih =>
      intro i acc hi ha
      have hlt : i < l.length := by omega
      have hm := hs _ (getD_mem l i ByteArray.empty hlt)
      have ee : rdOf ByteArray.empty l (i : Int) = l.getD i ByteArray.empty := rfl
      rw [drop_getD l i ByteArray.empty hlt]
      refine Ev.step (fun k => by rw [impl_SortPre.l0, if_pos (by omega), if_pos (by omega), if_pos (by omega), ee, wa1 i (by omega)]) ?_
      refine Ev.bind (isVersion_ev _ hm) ?_
      by_cases h : isVer (L (l.getD i ByteArray.empty)) = true
      · rw [List.filter_cons_of_pos (p := fun s => isVer (L s)) h]
        refine ev_pos h (ev_pos (by omega) ?_)
        have := ih (i + 1) (acc ++ [l.getD i ByteArray.empty]) (by omega) (by rw [List.length_append, List.length_singleton]; omega)
        rw [List.append_assoc, List.singleton_append] at this
        exact this
      · rw [List.filter_cons_of_neg (p := fun s => isVer (L s)) h]
        exact ev_neg h (ih (i + 1) acc (by omega) (by omega))
  have := key l.length 0 [] (by omega) (by simp)
  rw [List.drop_zero, List.nil_append] at this
  exact this
theorem ins_take (s : B) : ∀ (j : Nat) (out : List B), (∀ w ∈ out.take j, cmpS w s < 0) → ins cmpS s out = out.take j ++ ins cmpS s (out.drop j)
  | 0, out, _ => by simp
  | j + 1, [], _ => by simp
  | j + 1, w :: r, h => by
    rw [ins, if_pos (h w (by simp)), ins_take s j r fun x hx => h x (by simp [hx])]
    simp
theorem rd_S (out : List B) (j : Nat) (h : j < out.length) : rdOf ByteArray.empty (out.map S) (j : Int) = S (out.getD j []) := by
  unfold rdOf
  rw [List.getD_eq_getElem?_getD, List.getD_eq_getElem?_getD]
  simp [h]
theorem splice (out : List B) (s : ByteArray) (j : Nat) (hj : j ≤ out.length) : ([] ++ ((out.map S).take ((j : Int)).toNat).drop (Int.toNat 0)) ++ [s] ++ ((out.map S).take (Int.toNat ((out.map S).length : Int))).drop ((j : Int)).toNat = (out.take j ++ L s :: out.drop j).map S := by
  rw [Int.toNat_natCast, Int.toNat_natCast, List.take_length, List.nil_append]
  simp [List.map_take, List.map_drop]
theorem sort_ins (l : List ByteArray) (hl : l.length ≤ 1048576) (i : Nat) (hi : i < l.length) (out : List B) (hol : out.length ≤ 1048576) (ho : ∀ w ∈ out, w.length ≤ 1048576) {r : List ByteArray}
    (h : Ev (fun k => spec_SortVersions.l0 k l ((ins cmpS (L (l.getD i ByteArray.empty)) out).map S) ((i + 1 : Nat) : Int)) r) : ∀ e j, j + e = out.length → (∀ w ∈ out.take j, cmpS w (L (l.getD i ByteArray.empty)) < 0) →
    Ev (fun k => spec_SortVersions.l1 k l (out.map S) (i : Int) (j : Int) (readVer (L (l.getD i ByteArray.empty))).1 (readVer (L (l.getD i ByteArray.empty))).2.1 (readVer (L (l.getD i ByteArray.empty))).2.2.1 (readVer (L (l.getD i ByteArray.empty))).2.2.2.1) r := by
  have es : rdOf ByteArray.empty l (i : Int) = l.getD i ByteArray.empty := rfl
  generalize hs : l.getD i ByteArray.empty = s at *
  have hml : (out.map S).length = out.length := List.length_map ..
  intro e
  induction e with
  | zero =>
    intro j hj hlt
    have hins : ins cmpS (L s) out = out.take j ++ L s :: out.drop j := by
      rw [ins_take (L s) j out hlt, List.drop_of_length_le (by omega)]; rfl
    rw [hins, ← splice out s j (by omega)] at h
    refine Ev.step (f := fun k => spec_SortVersions.j1 k l (out.map S) (i : Int) (j : Int)) (fun k => by rw [spec_SortVersions.l1, if_neg (by omega)]) ?_
    refine Ev.step (fun k => by rw [spec_SortVersions.j1, if_neg (by omega), if_pos (by omega), if_pos (by omega), if_pos (by omega), if_pos (by omega), if_pos (by omega), es, wa1 i (by omega)]) ?_
    exact h
  | succ e ih =>
    intro j hj hlt
    have hjl : j < out.length := by omega
    have hw := ho _ (getD_mem out j [] hjl)
    refine Ev.step (fun k => by rw [spec_SortVersions.l1, if_pos (by omega), if_pos (by omega), rd_S out j hjl, wa1 j (by omega)]) ?_
    have hrv := spec_ReadVersion_ev (S (out.getD j [])) (by rw [size_S]; exact hw)
    rw [L_S] at hrv
    refine Ev.bind hrv (Ev.bind (spec_compare_ev (out.getD j []) (L s)) ?_)
    have hdrop := drop_getD out j [] hjl
    by_cases hc : cmpS (out.getD j []) (L s) < 0
    · refine ev_neg (by omega) (ih (j + 1) (by omega) fun w hw' => ?_)
      rw [List.take_succ_eq_append_getElem hjl, List.mem_append, List.mem_singleton] at hw'
      rcases hw' with hw' | rfl
      · exact hlt w hw'
      · rw [List.getD_eq_getElem?_getD, List.getElem?_eq_getElem hjl] at hc; exact hc
    · refine ev_pos (by omega) ?_
      by_cases he : out.getD j [] = L s
      · have hins : ins cmpS (L s) out = out := by
          rw [ins_take (L s) j out hlt, hdrop, ins, if_neg hc, if_pos he, ← hdrop]
          exact List.take_append_drop j out
        rw [hins] at h
        refine Ev.step (fun k => by rw [spec_SortVersions.j1, if_pos (by omega), if_pos (by omega), if_pos (by omega), if_pos (by omega), es, rd_S out j hjl, if_pos (by rw [toList_L, toList_L, L_S]; exact he), wa1 i (by omega)]) ?_
        exact h
      · have hins : ins cmpS (L s) out = out.take j ++ L s :: out.drop j := by
          rw [ins_take (L s) j out hlt, hdrop, ins, if_neg hc, if_neg he]
        rw [hins, ← splice out s j (by omega)] at h
        refine Ev.step (fun k => by rw [spec_SortVersions.j1, if_pos (by omega), if_pos (by omega), if_pos (by omega), if_pos (by omega), es, rd_S out j hjl, if_neg (by rw [toList_L, toList_L, L_S]; exact he), if_pos (by omega), if_pos (by omega), if_pos (by omega), if_pos (by omega), if_pos (by omega), wa1 i (by omega)]) ?_
        exact h
theorem ins_len (s : B) : ∀ out : List B, (ins cmpS s out).length ≤ out.length + 1
  | [] => by simp [ins]
  | w :: r => by
    rw [ins]
    split
    · have := ins_len s r; simp only [List.length_cons]; omega
    · split <;> simp
theorem spec_SortVersions_ev (l : List ByteArray) (hl : l.length ≤ 1048576) (hs : ∀ x ∈ l, x.size ≤ 1048576) : Ev (fun k => spec_SortVersions.f k l) ((sorted cmpS ((l.map L).filter isVer)).map S) := by
  unfold spec_SortVersions.f sorted
  have key : ∀ d i (out : List B), i + d = l.length → out.length ≤ i → (∀ w ∈ out, w.length ≤ 1048576) → Ev (fun k => spec_SortVersions.l0 k l (out.map S) (i : Int)) (((((l.drop i).map L).filter isVer).foldl (fun o s => ins cmpS s o) out).map S) := by
    intro d
    induction d with
    | zero =>
      intro i out hi ho hw
      rw [List.drop_of_length_le (by omega)]
      exact Ev.step (f := fun _ => some (out.map S)) (fun k => by rw [spec_SortVersions.l0, if_neg (by omega)]) (Ev.now _)
    | succ d ih =>
      intro i out hi ho hw
      have hlt : i < l.length := by omega
      have hm := hs _ (getD_mem l i ByteArray.empty hlt)
      have es : rdOf ByteArray.empty l (i : Int) = l.getD i ByteArray.empty := rfl
      rw [drop_getD l i ByteArray.empty hlt, List.map_cons]
      refine Ev.step (fun k => by rw [spec_SortVersions.l0, if_pos (by omega), if_pos (by omega), es, wa1 i (by omega)]) ?_
      refine Ev.bind (spec_ReadVersion_ev _ hm) ?_
      by_cases h : isVer (L (l.getD i ByteArray.empty)) = true
      · rw [List.filter_cons_of_pos h, List.foldl_cons]
        refine ev_pos h ?_
        have go := ih (i + 1) (ins cmpS (L (l.getD i ByteArray.empty)) out) (by omega) (by have := ins_len (L (l.getD i ByteArray.empty)) out; omega) (fun w hx => by
          rcases (mem_ins _ _ _).1 hx with rfl | hx
          · have := size_L (l.getD i ByteArray.empty); omega
          · exact hw w hx)
        exact sort_ins l hl i hlt out (by omega) hw go out.length 0 (by omega) (fun w hx => by simp at hx)
      · rw [List.filter_cons_of_neg h]
        exact ev_neg h (ih (i + 1) out (by omega) (by omega) hw)
  have := key l.length 0 [] (by omega) (by simp) (fun w hx => by simp at hx)
  rw [List.drop_zero] at this
  exact this
def bOk (b : S45) : Bool := verOr (L b.f0) && verOr (L b.f1)
def rangeOk (l : List S45) : Bool := l.all bOk && decide (1 ≤ l.length ∧ l.length ≤ 8)
theorem spec_l03Is_ev (s : ByteArray) (hs : s.size ≤ 1048576) : Ev (fun k => spec_l03Is.f k s) (verOr (L s)) := by
  unfold spec_l03Is.f verOr isVer
  refine Ev.bind (spec_ReadVersion_ev s hs) ?_
  rw [toList_L]
  by_cases h : (readVer (L s)).2.2.2.2 = true
  · rw [h]; exact ev_pos rfl (Ev.now _)
  · refine ev_use (ev_neg h (Ev.now _)) ?_
    simp only [Bool.not_eq_true] at h; rw [h]; rfl
theorem impl_isVersion_ev (s : ByteArray) (hs : s.size ≤ 1048576) : Ev (fun k => impl_isVersion.f k s) (isVer (L s)) := by
  unfold impl_isVersion.f isVer
  exact Ev.bind (impl_ReadVersion_ev s hs) (Ev.now _)
theorem spec_RangeOk_ev (l : List S45) (hl : l.length ≤ 1048576) (hs : ∀ b ∈ l, b.f0.size ≤ 1048576 ∧ b.f1.size ≤ 1048576) : Ev (fun k => spec_RangeOk.f k l) (rangeOk l) := by
  refine all_loop l z45 bOk _ (fun k i => spec_RangeOk.l0 k l i) ?_ ?_
  · refine Ev.step (f := fun k => some (decide (1 ≤ l.length ∧ l.length ≤ 8))) (fun k => ?_) (Ev.now _)
    show spec_RangeOk.l0 (k + 1) l _ = _
    rw [spec_RangeOk.l0, if_neg (by omega), spec_l01In_eq, Option.bind_some]
    congr 1
    by_cases h : 1 ≤ l.length ∧ l.length ≤ 8
    · rw [decide_eq_true h, decide_eq_true (by omega)]
    · rw [decide_eq_false h, decide_eq_false (by omega)]
  · intro i r hi hr
    have hm := hs _ (getD_mem l i z45 hi)
    have ee : rd_T45 l (i : Int) = l.getD i z45 := rfl
    refine Ev.step (f := fun k => (spec_l03Is.f k (l.getD i z45).f0).bind fun t => if t = true then ((spec_l03Is.f k (l.getD i z45).f1).bind fun u => if u = true then spec_RangeOk.l0 k l ((i + 1 : Nat) : Int) else some false) else some false) (fun k => ?_) ?_
    · show spec_RangeOk.l0 (k + 1) l _ = _
      rw [spec_RangeOk.l0, if_pos (by omega), if_pos (by omega), ee, wa1 i (by omega)]
    · generalize l.getD i z45 = b at hm ⊢
      unfold bOk
      refine Ev.bind (spec_l03Is_ev b.f0 hm.1) ?_
      by_cases h0 : verOr (L b.f0) = true
      · rw [h0, Bool.true_and]
        refine ev_pos rfl (Ev.bind (spec_l03Is_ev b.f1 hm.2) ?_)
        by_cases h1 : verOr (L b.f1) = true
        · rw [h1, Bool.true_and]; exact ev_pos rfl hr
        · simp only [Bool.not_eq_true] at h1; rw [h1]; exact ev_neg (by simp) (Ev.now _)
      · simp only [Bool.not_eq_true] at h0; rw [h0]; exact ev_neg (by simp) (Ev.now _)
theorem ask_end {s : ByteArray} (hs : s.size ≤ 1048576) {f : Nat → Option Bool} {r : Bool} (hr : Ev f r) : Ev (fun k => if s.toList = ([] : List UInt8) then f k else (impl_isVersion.f k s).bind fun t => if t = true then f k else some false) (verOr (L s) && r) := by
  rw [toList_L]
  unfold verOr
  by_cases h : L s = []
  · have : (L s == ([] : B)) = true := beq_iff_eq.2 h
    rw [this, Bool.or_true, Bool.true_and]; exact ev_pos h hr
  · have : (L s == ([] : B)) = false := beq_eq_false_iff_ne.2 h
    rw [this, Bool.or_false]
    refine ev_neg h (Ev.bind (impl_isVersion_ev s hs) ?_)
    by_cases h1 : isVer (L s) = true
    · rw [h1, Bool.true_and]; exact ev_pos rfl hr
    · simp only [Bool.not_eq_true] at h1; rw [h1]; exact ev_neg (by simp) (Ev.now _)
theorem impl_RangeOk_ev (l : List S45) (hl : l.length ≤ 1048576) (hs : ∀ b ∈ l, b.f0.size ≤ 1048576 ∧ b.f1.size ≤ 1048576) : Ev (fun k => impl_RangeOk.f k l) (rangeOk l) := by
  refine all_loop l z45 bOk _ (fun k i => impl_RangeOk.l0 k l l (l.length : Int) i) ?_ ?_
  · refine Ev.step (f := fun k => some (decide (1 ≤ l.length ∧ l.length ≤ 8))) (fun k => ?_) (Ev.now _)
    show impl_RangeOk.l0 (k + 1) l l _ _ = _
    rw [impl_RangeOk.l0, if_neg (by omega), impl_within_eq, Option.bind_some]
    congr 1
    by_cases h : 1 ≤ l.length ∧ l.length ≤ 8
    · rw [decide_eq_true h, decide_eq_true (by omega)]
    · rw [decide_eq_false h, decide_eq_false (by omega)]
  · intro i r hi hr
    have hm := hs _ (getD_mem l i z45 hi)
    have ee : rd_T45 l (i : Int) = l.getD i z45 := rfl
    refine ev_use (Ev.step (fun k => ?_) (ask_end hm.1 (ask_end hm.2 hr))) (by unfold bOk; rw [Bool.and_assoc])
    show impl_RangeOk.l0 (k + 1) l l _ _ = _
    rw [impl_RangeOk.l0, if_pos (by omega), if_pos (by omega), if_pos (by omega), ee, wa1 i (by omega)]
theorem any_loop {α : Type} (l : List α) (z : α) (p : α → Bool) (g : Nat → Int → Option Bool) (hend : Ev (fun k => g k (l.length : Int)) false)
    (hstep : ∀ (i : Nat) (r : Bool), i < l.length → Ev (fun k => g k ((i + 1 : Nat) : Int)) r → Ev (fun k => g k (i : Int)) (p (l.getD i z) || r)) : Ev (fun k => g k 0) (l.any p) := by
  have key : ∀ d i, i + d = l.length → Ev (fun k => g k (i : Int)) ((l.drop i).any p) := by
    intro d
    induction d with
    | zero =>
      intro i hi
      have e : i = l.length := by omega
      subst e
      rw [List.drop_length]; exact hend
    | succ d ih =>
      intro i hi
      rw [drop_getD l i z (by omega), List.any_cons]
      exact hstep i _ (by omega) (ih (i + 1) (by omega))
  have := key l.length 0 (by omega)
  exact this
def finB (x y : B) : Bool := decide ((readVer x).2.2.2.1 = []) || (decide ((readVer y).2.2.2.1 ≠ []) && (decide ((readVer y).1 = (readVer x).1) && (decide ((readVer y).2.1 = (readVer x).2.1) && decide ((readVer y).2.2.1 = (readVer x).2.2.1))))
def outB (x : B) (b : S45) : Bool := (isVer (L b.f0) && decide (cmpS x (L b.f0) < 0)) || (isVer (L b.f1) && decide (0 ≤ cmpS x (L b.f1)))
def inOne (x : B) (b : S45) : Bool := !outB x b && finB x (L b.f0)
def inL (x : B) (r : List S45) : Bool := (isVer x && rangeOk r) && r.any (inOne x)
theorem fin_eq (a b c a' b' c' : Int) (p q : List ByteArray) : (if (p.length : Int) = 0 then some true else (if (q.length : Int) > 0 then (if a' = a then (if b' = b then some (c' == c) else some false) else some false) else some false)) = some (decide (p = []) || (decide (q ≠ []) && (decide (a' = a) && (decide (b' = b) && decide (c' = c))))) := by
  cases p with
  | nil => rw [if_pos (by simp)]; simp
  | cons x p =>
    rw [if_neg (by rw [List.length_cons]; omega)]
    cases q with
    | nil => rw [if_neg (by simp)]; simp
    | cons y q =>
      rw [if_pos (by rw [List.length_cons]; omega)]
      by_cases h1 : a' = a
      · rw [if_pos h1]
        by_cases h2 : b' = b
        · rw [if_pos h2]; by_cases h3 : c' = c <;> simp [h1, h2, h3]
        · rw [if_neg h2]; simp [h2]
      · rw [if_neg h1]; simp [h1]
theorem fin_no (p : List ByteArray) : (if (p.length : Int) = 0 then some true else some false) = some (decide (p = [])) := by
  cases p with
  | nil => rw [if_pos (by simp)]; simp
  | cons x p => rw [if_neg (by rw [List.length_cons]; omega)]; simp
theorem no_pre {y : B} (h : ¬ isVer y = true) : (readVer y).2.2.2.1 = [] := by
  unfold isVer at h
  unfold readVer at h ⊢
  split at h
  · exact absurd rfl h
  · rename_i hc; rw [if_neg hc]; rfl
theorem finB_no {x y : B} (h : ¬ isVer y = true) : finB x y = decide ((readVer x).2.2.2.1 = []) := by
  unfold finB; rw [no_pre h]; simp
theorem spec_takes_hi (x hi : B) {f : Nat → Option Bool} {q : Bool} (hf : Ev f q) : Ev (fun k => if (readVer hi).2.2.2.2 = true then ((spec_CompareVersion.f k (readVer x).1 (readVer x).2.1 (readVer x).2.2.1 (readVer x).2.2.2.1 (readVer hi).1 (readVer hi).2.1 (readVer hi).2.2.1 (readVer hi).2.2.2.1).bind fun t => if t ≥ 0 then some false else f k) else f k) (!(isVer hi && decide (0 ≤ cmpS x hi)) && q) := by
  by_cases h : isVer hi = true
  · rw [h, Bool.true_and]
    refine ev_pos h (Ev.bind (spec_compare_ev x hi) ?_)
    by_cases h2 : 0 ≤ cmpS x hi
    · rw [decide_eq_true h2]; exact ev_pos h2 (Ev.now _)
    · rw [decide_eq_false h2]; exact ev_neg h2 hf
  · have h' : isVer hi = false := by simpa using h
    rw [h']; exact ev_neg h hf
theorem spec_l03Takes_ev (x : B) (b0 b1 : ByteArray) (h0 : b0.size ≤ 1048576) (h1 : b1.size ≤ 1048576) : Ev (fun k => spec_l03Takes.f k b0 b1 (readVer x).1 (readVer x).2.1 (readVer x).2.2.1 (readVer x).2.2.2.1) (inOne x ⟨b0, b1⟩) := by
  unfold spec_l03Takes.f inOne outB
  refine Ev.bind (spec_ReadVersion_ev b0 h0) (Ev.bind (spec_ReadVersion_ev b1 h1) ?_)
  show Ev _ (!((isVer (L b0) && decide (cmpS x (L b0) < 0)) || (isVer (L b1) && decide (0 ≤ cmpS x (L b1)))) && finB x (L b0))
  rw [fin_eq, fin_no, Bool.not_or, Bool.and_assoc]
  by_cases h : isVer (L b0) = true
  · rw [h, Bool.true_and]
    refine ev_pos h (Ev.bind (spec_compare_ev x (L b0)) ?_)
    by_cases h2 : cmpS x (L b0) < 0
    · rw [decide_eq_true h2]; exact ev_pos h2 (Ev.now _)
    · rw [decide_eq_false h2]
      exact ev_neg h2 (spec_takes_hi x (L b1) (Ev.now _))
  · have h' : isVer (L b0) = false := by simpa using h
    rw [h', finB_no h]
    exact ev_neg h (spec_takes_hi x (L b1) (Ev.now _))
theorem spec_In_ev (s : ByteArray) (l : List S45) (hsz : s.size ≤ 1048576) (hl : l.length ≤ 1048576) (hs : ∀ b ∈ l, b.f0.size ≤ 1048576 ∧ b.f1.size ≤ 1048576) : Ev (fun k => spec_In.f k s l) (inL (L s) l) := by
  unfold spec_In.f
  refine Ev.bind (spec_ReadVersion_ev s hsz) ?_
  have go : Ev (fun k => spec_In.l0 k l (isVer (L s)) 0 (readVer (L s)).1 (readVer (L s)).2.1 (readVer (L s)).2.2.1 (readVer (L s)).2.2.2.1) (l.any fun b => (isVer (L s) && rangeOk l) && inOne (L s) b) := by
    refine any_loop l z45 _ (fun k i => spec_In.l0 k l (isVer (L s)) i (readVer (L s)).1 (readVer (L s)).2.1 (readVer (L s)).2.2.1 (readVer (L s)).2.2.2.1) ?_ ?_
    · exact Ev.step (f := fun _ => some false) (fun k => by show spec_In.l0 (k + 1) l _ _ _ _ _ _ = _; rw [spec_In.l0, if_neg (by omega)]) (Ev.now _)
    · intro i r hi hr
      have hm := hs _ (getD_mem l i z45 hi)
      have ee : rd_T45 l (i : Int) = l.getD i z45 := rfl
      refine Ev.step (f := fun k => if isVer (L s) = true then ((spec_RangeOk.f k l).bind fun t => if t = true then ((spec_l03Takes.f k (l.getD i z45).f0 (l.getD i z45).f1 (readVer (L s)).1 (readVer (L s)).2.1 (readVer (L s)).2.2.1 (readVer (L s)).2.2.2.1).bind fun u => if u = true then some true else spec_In.l0 k l (isVer (L s)) ((i + 1 : Nat) : Int) (readVer (L s)).1 (readVer (L s)).2.1 (readVer (L s)).2.2.1 (readVer (L s)).2.2.2.1) else spec_In.l0 k l (isVer (L s)) ((i + 1 : Nat) : Int) (readVer (L s)).1 (readVer (L s)).2.1 (readVer (L s)).2.2.1 (readVer (L s)).2.2.2.1) else spec_In.l0 k l (isVer (L s)) ((i + 1 : Nat) : Int) (readVer (L s)).1 (readVer (L s)).2.1 (readVer (L s)).2.2.1 (readVer (L s)).2.2.2.1) (fun k => ?_) ?_
      · show spec_In.l0 (k + 1) l _ _ _ _ _ _ = _
        rw [spec_In.l0, if_pos (by omega), if_pos (show (0 : Int) ≤ (i : Int) by omega), ee, wa1 i (by omega)]
      · generalize l.getD i z45 = b at hm ⊢
        by_cases h1 : isVer (L s) = true
        · rw [h1] at hr ⊢
          rw [Bool.true_and]
          refine ev_pos rfl (Ev.bind (spec_RangeOk_ev l hl hs) ?_)
          by_cases h2 : rangeOk l = true
          · rw [h2, Bool.true_and]
            refine ev_pos rfl (Ev.bind (spec_l03Takes_ev (L s) b.f0 b.f1 hm.1 hm.2) ?_)
            show Ev _ (inOne (L s) ⟨b.f0, b.f1⟩ || r)
            by_cases h3 : inOne (L s) ⟨b.f0, b.f1⟩ = true
            · rw [h3, Bool.true_or]; exact ev_pos rfl (Ev.now _)
            · have h3' : inOne (L s) ⟨b.f0, b.f1⟩ = false := by simpa using h3
              rw [h3', Bool.false_or]; exact ev_neg (by simp) hr
          · have h2' : rangeOk l = false := by simpa using h2
            rw [h2', Bool.false_and, Bool.false_or]; exact ev_neg (by simp) hr
        · have h1' : isVer (L s) = false := by simpa using h1
          rw [h1'] at hr ⊢
          rw [Bool.false_and, Bool.false_and, Bool.false_or]; exact ev_neg (by simp) hr
  refine ev_use go ?_
  unfold inL
  cases isVer (L s) && rangeOk l with
  | true => simp
  | false => simp
theorem impl_In_j2 (s : ByteArray) (l : List S45) (n i : Int) (flag : Bool) (b0 b1 : ByteArray) (h0 : b0.size ≤ 1048576) {r : Bool} (hr : Ev (fun k => impl_In.l0 k s l n (wrap64 (i + 1)) (readVer (L s)).1 (readVer (L s)).2.1 (readVer (L s)).2.2.1 (readVer (L s)).2.2.2.1) r) :
    Ev (fun k => impl_In.j2 k s l n i flag (readVer (L s)).1 (readVer (L s)).2.1 (readVer (L s)).2.2.1 (readVer (L s)).2.2.2.1 b0 b1) ((!flag && finB (L s) (L b0)) || r) := by
  cases flag with
  | true =>
    refine ev_use (Ev.step (fun k => ?_) hr) (by simp)
    rw [impl_In.j2, if_pos rfl]
  | false =>
    refine Ev.step (fun k => by rw [impl_In.j2, if_neg (by decide)]) (Ev.bind (impl_ReadVersion_ev b0 h0) ?_)
    rw [Bool.not_false, Bool.true_and]
    unfold finB
    generalize readVer (L b0) = v
    generalize (readVer (L s)).2.2.2.1 = p at hr ⊢
    cases p with
    | nil => exact ev_pos (by simp) (ev_use (Ev.now _) (by simp))
    | cons x p =>
      refine ev_neg (by rw [List.length_cons]; omega) ?_
      rw [decide_eq_false (show ¬ x :: p = [] by simp), Bool.false_or]
      by_cases h1 : v.2.2.2.1 = []
      · rw [h1]; exact ev_neg (by simp) (ev_use hr (by simp))
      · have hp : 0 < v.2.2.2.1.length := List.length_pos_iff.2 h1
        refine ev_pos (by omega) ?_
        rw [decide_eq_true h1, Bool.true_and]
        by_cases h2 : v.1 = (readVer (L s)).1
        · refine ev_pos h2 ?_
          rw [decide_eq_true h2, Bool.true_and]
          by_cases h3 : v.2.1 = (readVer (L s)).2.1
          · refine ev_pos h3 ?_
            rw [decide_eq_true h3, Bool.true_and]
            by_cases h4 : v.2.2.1 = (readVer (L s)).2.2.1
            · rw [decide_eq_true h4, Bool.true_or]; exact ev_pos h4 (Ev.now _)
            · rw [decide_eq_false h4, Bool.false_or]; exact ev_neg h4 hr
          · rw [decide_eq_false h3, Bool.false_and, Bool.false_or]; exact ev_neg h3 hr
        · rw [decide_eq_false h2, Bool.false_and, Bool.false_or]; exact ev_neg h2 hr
theorem verOr_nil {l : B} (h : l = []) : isVer l = false := by rw [h]; exact isVer_nil
theorem verOr_ne {l : B} (h : verOr l = true) (hne : ¬ l = []) : isVer l = true := by
  unfold verOr at h
  rw [Bool.or_eq_true] at h
  rcases h with h | h
  · exact h
  · exact absurd (beq_iff_eq.1 h) hne
theorem ask_high (s b1 : ByteArray) (hs : s.size ≤ 1048576) (h1 : b1.size ≤ 1048576) (hv : verOr (L b1) = true) {F : Nat → Bool → Option Bool} {a : Bool → Bool} (hF : ∀ f, Ev (fun k => F k f) (a f)) :
    Ev (fun k => if b1.toList = ([] : List UInt8) then F k false else ((impl_compareTexts.f k s b1).bind fun t => F k (decide (t ≥ 0)))) (a (isVer (L b1) && decide (0 ≤ cmpS (L s) (L b1)))) := by
  rw [toList_L]
  by_cases h : L b1 = []
  · rw [verOr_nil h, Bool.false_and]; exact ev_pos h (hF false)
  · rw [verOr_ne hv h, Bool.true_and]
    exact ev_neg h (Ev.bind (impl_compareTexts_ev s b1 hs h1) (hF _))
theorem impl_In_ev (s : ByteArray) (l : List S45) (hsz : s.size ≤ 1048576) (hl : l.length ≤ 1048576) (hs : ∀ b ∈ l, b.f0.size ≤ 1048576 ∧ b.f1.size ≤ 1048576) : Ev (fun k => impl_In.f k s l) (inL (L s) l) := by
  unfold impl_In.f
  refine Ev.bind (impl_ReadVersion_ev s hsz) ?_
  have stop : Ev (fun k => impl_In.j0 k s l true (readVer (L s)).1 (readVer (L s)).2.1 (readVer (L s)).2.2.1 (readVer (L s)).2.2.2.1) false :=
    Ev.step (f := fun _ => some false) (fun k => by rw [impl_In.j0, if_pos rfl]) (Ev.now _)
  unfold inL
  by_cases h1 : isVer (L s) = true
  · refine ev_pos h1 (Ev.bind (impl_RangeOk_ev l hl hs) ?_)
    rw [h1, Bool.true_and]
    by_cases h2 : rangeOk l = true
    · rw [h2, Bool.true_and]
      have hb : ∀ b ∈ l, bOk b = true := by
        unfold rangeOk at h2
        simp only [Bool.and_eq_true, List.all_eq_true, decide_eq_true_eq] at h2
        exact h2.1
      refine Ev.step (f := fun k => impl_In.l0 k s l (l.length : Int) 0 (readVer (L s)).1 (readVer (L s)).2.1 (readVer (L s)).2.2.1 (readVer (L s)).2.2.2.1) (fun k => by rw [impl_In.j0, if_neg (by decide)]) ?_
      refine any_loop l z45 _ (fun k i => impl_In.l0 k s l (l.length : Int) i (readVer (L s)).1 (readVer (L s)).2.1 (readVer (L s)).2.2.1 (readVer (L s)).2.2.2.1) ?_ ?_
      · exact Ev.step (f := fun _ => some false) (fun k => by show impl_In.l0 (k + 1) s l _ _ _ _ _ _ = _; rw [impl_In.l0, if_neg (by omega)]) (Ev.now _)
      · intro i r hi hr
        have hmem := getD_mem l i z45 hi
        have hm := hs _ hmem
        have hk := hb _ hmem
        have ee : rd_T45 l (i : Int) = l.getD i z45 := rfl
        rw [← wa1 i (by omega)] at hr
        unfold bOk at hk
        rw [Bool.and_eq_true] at hk
        generalize hbb : l.getD i z45 = b at hm hk
        have j2 := fun f => impl_In_j2 s l (l.length : Int) (i : Int) f b.f0 b.f1 hm.1 hr
        refine ev_use (Ev.step (f := fun k => if b.f0.toList = ([] : List UInt8) then (if b.f1.toList = ([] : List UInt8) then impl_In.j2 k s l (l.length : Int) (i : Int) false (readVer (L s)).1 (readVer (L s)).2.1 (readVer (L s)).2.2.1 (readVer (L s)).2.2.2.1 b.f0 b.f1 else ((impl_compareTexts.f k s b.f1).bind fun t => impl_In.j2 k s l (l.length : Int) (i : Int) (decide (t ≥ 0)) (readVer (L s)).1 (readVer (L s)).2.1 (readVer (L s)).2.2.1 (readVer (L s)).2.2.2.1 b.f0 b.f1)) else ((impl_compareTexts.f k s b.f0).bind fun t => if t < 0 then impl_In.j2 k s l (l.length : Int) (i : Int) true (readVer (L s)).1 (readVer (L s)).2.1 (readVer (L s)).2.2.1 (readVer (L s)).2.2.2.1 b.f0 b.f1 else (if b.f1.toList = ([] : List UInt8) then impl_In.j2 k s l (l.length : Int) (i : Int) false (readVer (L s)).1 (readVer (L s)).2.1 (readVer (L s)).2.2.1 (readVer (L s)).2.2.2.1 b.f0 b.f1 else ((impl_compareTexts.f k s b.f1).bind fun t => impl_In.j2 k s l (l.length : Int) (i : Int) (decide (t ≥ 0)) (readVer (L s)).1 (readVer (L s)).2.1 (readVer (L s)).2.2.1 (readVer (L s)).2.2.2.1 b.f0 b.f1)))) (r := (!outB (L s) b && finB (L s) (L b.f0)) || r) (fun k => ?_) ?_) rfl
        · show impl_In.l0 (k + 1) s l _ _ _ _ _ _ = _
          rw [impl_In.l0, if_pos (by omega), if_pos (by omega), if_pos (by omega), ee, hbb]
        · have high := ask_high s b.f1 hsz hm.2 hk.2 (a := fun f => (!f && finB (L s) (L b.f0)) || r) j2
          rw [toList_L]
          unfold outB
          by_cases c : L b.f0 = []
          · rw [verOr_nil c, Bool.false_and, Bool.false_or]; exact ev_pos c high
          · rw [verOr_ne hk.1 c, Bool.true_and]
            refine ev_neg c (Ev.bind (impl_compareTexts_ev s b.f0 hsz hm.1) ?_)
            by_cases h3 : cmpS (L s) (L b.f0) < 0
            · rw [decide_eq_true h3, Bool.true_or]; exact ev_pos h3 (j2 true)
            · rw [decide_eq_false h3, Bool.false_or]; exact ev_neg h3 high
    · have h2' : rangeOk l = false := by simpa using h2
      rw [h2']; exact stop
  · have h1' : isVer (L s) = false := by simpa using h1
    rw [h1']; exact ev_neg h1 stop
abbrev es : ByteArray := ⟨#[]⟩
theorem es_le : es.size ≤ 1048576 := by decide
theorem cutP_mem3 (c : UInt8) : ∀ (l p x : B), x ∈ cutP c p l → x.length ≤ p.length + l.length := by
  intro l
  induction l with
  | nil => intro p x hx; simp only [cutP, List.mem_singleton] at hx; subst hx; simp
  | cons y l ih =>
    intro p x hx
    unfold cutP at hx
    by_cases h : y = c
    · rw [if_pos h] at hx
      rcases List.mem_cons.1 hx with rfl | hx
      · simp only [List.length_cons]; omega
      · have := ih [] x hx; simp only [List.length_nil, List.length_cons] at *; omega
    · rw [if_neg h] at hx
      have := ih _ x hx; simp only [List.length_append, List.length_cons, List.length_nil] at *; omega
theorem vt_len (a b c : Int) (p : List ByteArray) : (S (vtext a b c p)).size ≤ 1048576 := by have := vtext_len a b c p; rw [size_S]; omega
theorem below3_any (a b c : Int) (p : List ByteArray) (q : Int) : ∃ t ok, Ev (fun k => spec_l03Below.f k a b c p q) (t, ok) ∧ t.size ≤ 1048576 := by
  have hn := vnext_len a b c [] q
  have e1 := spec_Next_ev a b c [] q (by simp) (by simp)
  generalize vnext a b c [] q = v at hn e1
  obtain ⟨x, y, z, m⟩ := v
  have hm : m = [] := List.eq_nil_of_length_eq_zero (Nat.le_zero.1 hn)
  subst hm
  have e2 := spec_CompareVersion_ev x y z [] a b c [] (by simp) (by simp) (by simp)
  unfold spec_l03Below.f
  by_cases h : cmpV x y z (List.map L []) a b c (List.map L []) = 0
  · exact ⟨es, false, ev_some (Ev.bind e1 (Ev.bind e2 (ev_pos h (Ev.now _)))), es_le⟩
  · exact ⟨_, true, ev_some (Ev.bind e1 (Ev.bind e2 (ev_neg h (Ev.bind (spec_VersionText_ev x y z [(⟨#[48]⟩ : ByteArray)] (by simp) (fun x hx => by rw [List.mem_singleton] at hx; subst hx; decide)) (Ev.now _))))), vt_len _ _ _ _⟩
theorem from3_any (s : ByteArray) (a b c : Int) (p : List ByteArray) (q : Int) (hs : s.size ≤ 1048576) : ∃ x y ok, Ev (fun k => spec_l03From.f k s a b c p q) (x, y, ok) ∧ x.size ≤ 1048576 ∧ y.size ≤ 1048576 := by
  obtain ⟨t, ok, e, ht⟩ := below3_any a b c p q
  unfold spec_l03From.f
  by_cases h : ok = true
  · exact ⟨s, t, true, Ev.bind e (ev_pos h (Ev.now _)), hs, ht⟩
  · exact ⟨es, es, false, Ev.bind e (ev_neg h (Ev.now _)), es_le, es_le⟩
theorem alone3_any (s : ByteArray) (hs : s.size ≤ 1000) : ∃ x y ok, Ev (fun k => spec_l03Alone.f k s) (x, y, ok) ∧ x.size ≤ 1048576 ∧ y.size ≤ 1048576 := by
  have e1 := spec_ReadVersion_ev s (by omega)
  generalize readVer (L s) = v at e1
  obtain ⟨a, b, c, p, ok⟩ := v
  unfold spec_l03Alone.f
  by_cases h : ok = true
  · by_cases h2 : (p.length : Int) > 0
    · have hz : (s ++ (⟨#[46, 48]⟩ : ByteArray)).size = s.size + 2 := app_size2 _ _
      have e2 := spec_ReadVersion_ev (s ++ (⟨#[46, 48]⟩ : ByteArray)) (by omega)
      by_cases h3 : (readVer (L (s ++ (⟨#[46, 48]⟩ : ByteArray)))).2.2.2.2 = true
      · exact ⟨s, s ++ (⟨#[46, 48]⟩ : ByteArray), true, Ev.bind e1 (ev_pos h (ev_pos h2 (ev_pos (by omega) (Ev.bind e2 (ev_pos h3 (Ev.now _)))))), by omega, by omega⟩
      · exact ⟨es, es, false, Ev.bind e1 (ev_pos h (ev_pos h2 (ev_pos (by omega) (Ev.bind e2 (ev_neg h3 (Ev.now _)))))), es_le, es_le⟩
    · obtain ⟨t, ok2, e, ht⟩ := below3_any a b c p 2
      by_cases h3 : ok2 = true
      · exact ⟨s, t, true, Ev.bind e1 (ev_pos h (ev_neg h2 (Ev.bind e (ev_pos h3 (Ev.now _))))), by omega, ht⟩
      · exact ⟨es, es, false, Ev.bind e1 (ev_pos h (ev_neg h2 (Ev.bind e (ev_neg h3 (Ev.now _))))), es_le, es_le⟩
  · exact ⟨es, es, false, Ev.bind e1 (ev_neg h (Ev.now _)), es_le, es_le⟩
theorem short3_any (s : ByteArray) (hs : s.size ≤ 1000) : ∃ x y ok, Ev (fun k => spec_l03Short.f k s) (x, y, ok) ∧ x.size ≤ 1048576 ∧ y.size ≤ 1048576 := by
  have ec : Ev (fun k => spec_l01Cut.f k s 46) _ := spec_l01Cut_ev s 46 (by omega)
  generalize (cutP 46 [] (L s)).map S = w at ec
  have key : ∀ u : ByteArray, u.size ≤ 1048576 → ∃ x y ok, Ev (fun k => spec_l03Short.j0 k w u) (x, y, ok) ∧ x.size ≤ 1048576 ∧ y.size ≤ 1048576 := by
    intro u hu
    have er := spec_ReadVersion_ev u hu
    generalize readVer (L u) = v at er
    obtain ⟨a, b, c, p, ok⟩ := v
    have fin : ∀ f : Bool, ∃ x y ok, Ev (fun k => spec_l03Short.j1 k w u f a b c p) (x, y, ok) ∧ x.size ≤ 1048576 ∧ y.size ≤ 1048576 := by
      intro f
      cases f with
      | true => exact ⟨es, es, false, Ev.step (f := fun _ => some (es, es, false)) (fun k => by rw [spec_l03Short.j1, if_pos rfl]) (Ev.now _), es_le, es_le⟩
      | false =>
        obtain ⟨t, ok, e, ht⟩ := below3_any a b c p (wrap64 ((w.length : Int) - 1))
        by_cases h : ok = true
        · exact ⟨u, t, true, Ev.step (fun k => by rw [spec_l03Short.j1, if_neg (by decide)]) (Ev.bind e (ev_pos h (Ev.now _))), hu, ht⟩
        · exact ⟨es, es, false, Ev.step (fun k => by rw [spec_l03Short.j1, if_neg (by decide)]) (Ev.bind e (ev_neg h (Ev.now _))), es_le, es_le⟩
    by_cases h : ok = true
    · by_cases h2 : decide (1 ≤ (w.length : Int) ∧ (w.length : Int) ≤ 2) = true
      · obtain ⟨x, y, o, e, z⟩ := fin (decide ((p.length : Int) > 0))
        exact ⟨x, y, o, Ev.step (fun k => by rw [spec_l03Short.j0]) (Ev.bind er (ev_pos h (ev_const (spec_l01In_eq _ _ _) (ev_pos h2 e)))), z⟩
      · obtain ⟨x, y, o, e, z⟩ := fin true
        exact ⟨x, y, o, Ev.step (fun k => by rw [spec_l03Short.j0]) (Ev.bind er (ev_pos h (ev_const (spec_l01In_eq _ _ _) (ev_neg h2 e)))), z⟩
    · obtain ⟨x, y, o, e, z⟩ := fin true
      exact ⟨x, y, o, Ev.step (fun k => by rw [spec_l03Short.j0]) (Ev.bind er (ev_neg h e)), z⟩
  have z4 : (s ++ (⟨#[46, 48, 46, 48]⟩ : ByteArray)).size = s.size + 4 := app_size2 _ _
  have z2 : (s ++ (⟨#[46, 48]⟩ : ByteArray)).size = s.size + 2 := app_size2 _ _
  unfold spec_l03Short.f
  by_cases h : (w.length : Int) = 1
  · obtain ⟨x, y, o, e, z⟩ := key _ (show (s ++ (⟨#[46, 48, 46, 48]⟩ : ByteArray)).size ≤ 1048576 by omega)
    exact ⟨x, y, o, Ev.bind ec (ev_pos (by omega) (ev_pos h (ev_pos (by omega) e))), z⟩
  · obtain ⟨x, y, o, e, z⟩ := key _ (show (s ++ (⟨#[46, 48]⟩ : ByteArray)).size ≤ 1048576 by omega)
    exact ⟨x, y, o, Ev.bind ec (ev_pos (by omega) (ev_neg h e)), z⟩
theorem signs3_any (s : ByteArray) (hs : s.size ≤ 1000) : ∃ x y ok, Ev (fun k => spec_l03Signs.f k s) (x, y, ok) ∧ x.size ≤ 1048576 ∧ y.size ≤ 1048576 := by
  have ew : Ev (fun k => spec_Words.f k s) ((cutP 32 [] (L s)).map S) := by unfold spec_Words.f; exact Ev.bind (spec_l01Cut_ev s 32 (by omega)) (Ev.now _)
  have hw : ∀ x ∈ (cutP 32 [] (L s)).map S, x.size ≤ 1000 := fun x hx => by
    obtain ⟨y, hy, rfl⟩ := List.mem_map.1 hx
    have := cutP_mem3 32 _ _ _ hy
    have h2 := size_L s
    rw [size_S]; simp only [List.length_nil] at this; omega
  have hwl : ((cutP 32 [] (L s)).map S).length ≤ 1001 := by
    have := (cutP_len 32 (L s) []).2
    have h2 := size_L s
    rw [List.length_map]; omega
  generalize (cutP 32 [] (L s)).map S = w at ew hw hwl
  have key : ∀ (d i : Nat) (u v : ByteArray), i + d = w.length → u.size ≤ 1048576 → v.size ≤ 1048576 → ∃ x y ok, Ev (fun k => spec_l03Signs.l0 k w (i : Int) u v) (x, y, ok) ∧ x.size ≤ 1048576 ∧ y.size ≤ 1048576 := by
    intro d
    induction d with
    | zero =>
      intro i u v hi hu hv
      by_cases h : (w.length : Int) > 2
      · exact ⟨es, es, false, Ev.step (f := fun _ => some (es, es, false)) (fun k => by rw [spec_l03Signs.l0, if_neg (by omega), if_pos h]) (Ev.now _), es_le, es_le⟩
      · have er := spec_RangeOk_ev [(⟨u, v⟩ : S45)] (by simp) (fun b hb => by rw [List.mem_singleton] at hb; subst hb; exact ⟨hu, hv⟩)
        by_cases h2 : rangeOk [(⟨u, v⟩ : S45)] = true
        · exact ⟨u, v, true, Ev.step (fun k => by rw [spec_l03Signs.l0, if_neg (by omega), if_neg h]) (Ev.bind er (ev_pos h2 (Ev.now _))), hu, hv⟩
        · exact ⟨es, es, false, Ev.step (fun k => by rw [spec_l03Signs.l0, if_neg (by omega), if_neg h]) (Ev.bind er (ev_neg h2 (Ev.now _))), es_le, es_le⟩
    | succ d ih =>
      intro i u v hi hu hv
      have hx : (rdOf ByteArray.empty w (i : Int)).size ≤ 1000 := hw _ (getD_mem w i ByteArray.empty (by omega))
      have hj : ∀ f : Bool, (f = true → (rdOf ByteArray.empty w (i : Int)).size ≥ 2) → ∃ x y ok, Ev (fun k => spec_l03Signs.j1 k w (i : Int) f u v) (x, y, ok) ∧ x.size ≤ 1048576 ∧ y.size ≤ 1048576 := by
        intro f hf
        cases f with
        | true =>
          have h2 := hf rfl
          have hz := ext_size2 (rdOf ByteArray.empty w (i : Int)) 2 (rdOf ByteArray.empty w (i : Int)).size
          obtain ⟨x, y, o, e, z⟩ := ih (i + 1) ((rdOf ByteArray.empty w (i : Int)).extract 2 (rdOf ByteArray.empty w (i : Int)).size) v (by omega) (by omega) hv
          exact ⟨x, y, o, Ev.step (fun k => by rw [spec_l03Signs.j1, if_pos rfl, if_pos (by omega), if_pos (by omega), if_pos (by omega), wa1 i (by omega)]) e, z⟩
        | false =>
          by_cases h : (i : Int) = wrap64 ((w.length : Int) - 1)
          · by_cases h1 : ((rdOf ByteArray.empty w (i : Int)).size : Int) > 1
            · by_cases h3 : bt (rdOf ByteArray.empty w (i : Int)) 0 = 60
              · have hz := ext_size2 (rdOf ByteArray.empty w (i : Int)) 1 (rdOf ByteArray.empty w (i : Int)).size
                obtain ⟨x, y, o, e, z⟩ := ih (i + 1) u ((rdOf ByteArray.empty w (i : Int)).extract 1 (rdOf ByteArray.empty w (i : Int)).size) (by omega) hu (by omega)
                exact ⟨x, y, o, Ev.step (fun k => by rw [spec_l03Signs.j1, if_neg (by decide), if_pos h, if_pos (by omega), if_pos (by omega), if_pos h1, if_pos (by omega), if_pos h3, if_pos (by omega), wa1 i (by omega)]) e, z⟩
              · exact ⟨es, es, false, Ev.step (f := fun _ => some (es, es, false)) (fun k => by rw [spec_l03Signs.j1, if_neg (by decide), if_pos h, if_pos (by omega), if_pos (by omega), if_pos h1, if_pos (by omega), if_neg h3]) (Ev.now _), es_le, es_le⟩
            · exact ⟨es, es, false, Ev.step (f := fun _ => some (es, es, false)) (fun k => by rw [spec_l03Signs.j1, if_neg (by decide), if_pos h, if_pos (by omega), if_pos (by omega), if_neg h1]) (Ev.now _), es_le, es_le⟩
          · exact ⟨es, es, false, Ev.step (f := fun _ => some (es, es, false)) (fun k => by rw [spec_l03Signs.j1, if_neg (by decide), if_neg h]) (Ev.now _), es_le, es_le⟩
      by_cases h0 : (i : Int) = 0
      · by_cases h1 : ((rdOf ByteArray.empty w (i : Int)).size : Int) > 2
        · obtain ⟨x, y, o, e, z⟩ := hj (((rdOf ByteArray.empty w (i : Int)).extract 0 2).toList == ([62, 61] : List UInt8)) (fun _ => by omega)
          exact ⟨x, y, o, Ev.step (fun k => by rw [spec_l03Signs.l0, if_pos (by omega), if_pos h0, if_pos (by omega), if_pos h1, if_pos (by omega), if_pos (by omega)]) e, z⟩
        · obtain ⟨x, y, o, e, z⟩ := hj false (by simp)
          exact ⟨x, y, o, Ev.step (fun k => by rw [spec_l03Signs.l0, if_pos (by omega), if_pos h0, if_pos (by omega), if_neg h1]) e, z⟩
      · obtain ⟨x, y, o, e, z⟩ := hj false (by simp)
        exact ⟨x, y, o, Ev.step (fun k => by rw [spec_l03Signs.l0, if_pos (by omega), if_neg h0]) e, z⟩
  obtain ⟨x, y, o, e, z⟩ := key w.length 0 es es (by omega) es_le es_le
  unfold spec_l03Signs.f
  exact ⟨x, y, o, Ev.bind ew e, z⟩
theorem part3_any (s : ByteArray) (hs : s.size ≤ 1000) : ∃ x y ok, Ev (fun k => spec_l03Part.f k s) (x, y, ok) ∧ x.size ≤ 1048576 ∧ y.size ≤ 1048576 := by
  have hj1 : ∀ f : Bool, ∃ x y ok, Ev (fun k => spec_l03Part.j1 k s f) (x, y, ok) ∧ x.size ≤ 1048576 ∧ y.size ≤ 1048576 := by
    intro f
    cases f with
    | true =>
      obtain ⟨x, y, o, e, z⟩ := signs3_any s hs
      exact ⟨x, y, o, Ev.step (fun k => by rw [spec_l03Part.j1, if_pos rfl]) (Ev.bind e (Ev.now _)), z⟩
    | false =>
      obtain ⟨x, y, o, e, z⟩ := alone3_any s hs
      by_cases h : o = true
      · exact ⟨x, y, true, Ev.step (fun k => by rw [spec_l03Part.j1, if_neg (by decide)]) (Ev.bind e (ev_pos h (Ev.now _))), z⟩
      · obtain ⟨x2, y2, o2, e2, z2⟩ := short3_any s hs
        exact ⟨x2, y2, o2, Ev.step (fun k => by rw [spec_l03Part.j1, if_neg (by decide)]) (Ev.bind e (ev_neg h (Ev.bind e2 (Ev.now _)))), z2⟩
  have hj0 : ∀ f : Bool, (f = true → s.size > 1) → ∃ x y ok, Ev (fun k => spec_l03Part.j0 k s f) (x, y, ok) ∧ x.size ≤ 1048576 ∧ y.size ≤ 1048576 := by
    intro f hf
    cases f with
    | true =>
      have h1 := hf rfl
      have hz := ext_size2 s 1 s.size
      have er := spec_ReadVersion_ev (s.extract 1 s.size) (by omega)
      generalize readVer (L (s.extract 1 s.size)) = v at er
      obtain ⟨a, b, c, p, ok⟩ := v
      by_cases h : ok = true
      · by_cases h2 : bt s 0 = 126
        · obtain ⟨x, y, o, e, z⟩ := from3_any (s.extract 1 s.size) a b c p 1 (by omega)
          exact ⟨x, y, o, Ev.step (fun k => by rw [spec_l03Part.j0, if_pos rfl, if_pos (by omega)]) (Ev.bind er (ev_pos h (ev_pos (show 0 < (s.size : Int) by omega) (ev_pos h2 (Ev.bind e (Ev.now _)))))), z⟩
        · have hcar : ∃ q, spec_l03Caret.f a b c p = some q := by
            unfold spec_l03Caret.f
            by_cases c1 : a > 0
            · exact ⟨_, by rw [if_pos c1]⟩
            · by_cases c2 : b > 0
              · exact ⟨_, by rw [if_neg c1, if_pos c2]⟩
              · exact ⟨_, by rw [if_neg c1, if_neg c2]⟩
          obtain ⟨q, hq⟩ := hcar
          obtain ⟨x, y, o, e, z⟩ := from3_any (s.extract 1 s.size) a b c p q (by omega)
          exact ⟨x, y, o, Ev.step (fun k => by rw [spec_l03Part.j0, if_pos rfl, if_pos (by omega)]) (Ev.bind er (ev_pos h (ev_pos (show 0 < (s.size : Int) by omega) (ev_neg h2 (ev_const hq (Ev.bind e (Ev.now _))))))), z⟩
      · exact ⟨es, es, false, Ev.step (fun k => by rw [spec_l03Part.j0, if_pos rfl, if_pos (by omega)]) (Ev.bind er (ev_neg h (Ev.now _))), es_le, es_le⟩
    | false =>
      by_cases h : (s.size : Int) > 0
      · by_cases h2 : bt s 0 = 62
        · obtain ⟨x, y, o, e, z⟩ := hj1 true
          exact ⟨x, y, o, Ev.step (fun k => by rw [spec_l03Part.j0, if_neg (by decide), if_pos h, if_pos (by omega), if_pos h2]) e, z⟩
        · obtain ⟨x, y, o, e, z⟩ := hj1 (bt s 0 == 60)
          exact ⟨x, y, o, Ev.step (fun k => by rw [spec_l03Part.j0, if_neg (by decide), if_pos h, if_pos (by omega), if_neg h2]) e, z⟩
      · obtain ⟨x, y, o, e, z⟩ := hj1 false
        exact ⟨x, y, o, Ev.step (fun k => by rw [spec_l03Part.j0, if_neg (by decide), if_neg h]) e, z⟩
  unfold spec_l03Part.f
  by_cases h : s.toList = ([42] : List UInt8)
  · exact ⟨es, es, true, ev_pos h (Ev.now _), es_le, es_le⟩
  · by_cases h1 : (s.size : Int) > 1
    · by_cases h2 : bt s 0 = 94
      · obtain ⟨x, y, o, e, z⟩ := hj0 true (fun _ => by omega)
        exact ⟨x, y, o, ev_neg h (ev_pos h1 (ev_pos (by omega) (ev_pos h2 e))), z⟩
      · obtain ⟨x, y, o, e, z⟩ := hj0 (bt s 0 == 126) (fun _ => by omega)
        exact ⟨x, y, o, ev_neg h (ev_pos h1 (ev_pos (by omega) (ev_neg h2 e))), z⟩
    · obtain ⟨x, y, o, e, z⟩ := hj0 false (by simp)
      exact ⟨x, y, o, ev_neg h (ev_neg h1 e), z⟩
theorem parts3_any (s : ByteArray) (hs : s.size ≤ 1048576) : ∃ w, Ev (fun k => spec_l03Parts.f k s) w ∧ (∀ x ∈ w, x.size ≤ s.size) ∧ w.length ≤ 1048577 := by
  have key : ∀ (d i a : Nat) (acc : List ByteArray), s.size ≤ i + d → i ≤ s.size → a ≤ s.size → acc.length ≤ i → (∀ x ∈ acc, x.size ≤ s.size) →
      ∃ w, Ev (fun k => spec_l03Parts.l0 k s acc (a : Int) (i : Int)) w ∧ (∀ x ∈ w, x.size ≤ s.size) ∧ w.length ≤ 1048577 := by
    intro d
    induction d with
    | zero =>
      intro i a acc hi hi2 ha hc hm
      refine ⟨acc ++ [s.extract ((a : Int)).toNat s.size], Ev.step (f := fun _ => some (acc ++ [s.extract ((a : Int)).toNat s.size])) (fun k => by rw [spec_l03Parts.l0, wa4 i (by omega), if_neg (by omega), if_pos (by omega), if_pos (by omega), if_pos (by omega)]) (Ev.now _), fun x hx => ?_, by rw [List.length_append, List.length_singleton]; omega⟩
      rcases List.mem_append.1 hx with hx | hx
      · exact hm x hx
      · rw [List.mem_singleton.1 hx]; exact ext_size2 _ _ _
    | succ d ih =>
      intro i a acc hi hi2 ha hc hm
      by_cases h : ((i + 4 : Nat) : Int) ≤ (s.size : Int)
      · by_cases h1 : (i : Int) ≥ (a : Int)
        · by_cases h2 : (s.extract ((i : Int)).toNat (((i + 4 : Nat) : Int)).toNat).toList = ([32, 124, 124, 32] : List UInt8)
          · obtain ⟨w, e, z⟩ := ih (i + 1) (i + 4) (acc ++ [s.extract ((a : Int)).toNat ((i : Int)).toNat]) (by omega) (by omega) (by omega) (by rw [List.length_append, List.length_singleton]; omega) (fun x hx => by
              rcases List.mem_append.1 hx with hx | hx
              · exact hm x hx
              · rw [List.mem_singleton.1 hx]; exact ext_size2 _ _ _)
            exact ⟨w, Ev.step (fun k => by rw [spec_l03Parts.l0, wa4 i (by omega), if_pos h, if_pos h1, if_pos (by omega), if_pos (by omega), if_pos h2, if_pos (by omega), if_pos (by omega), if_pos (by omega), if_pos (by omega), wa1 i (by omega)]) e, z⟩
          · obtain ⟨w, e, z⟩ := ih (i + 1) a acc (by omega) (by omega) ha (by omega) hm
            exact ⟨w, Ev.step (fun k => by rw [spec_l03Parts.l0, wa4 i (by omega), if_pos h, if_pos h1, if_pos (by omega), if_pos (by omega), if_neg h2, wa1 i (by omega)]) e, z⟩
        · obtain ⟨w, e, z⟩ := ih (i + 1) a acc (by omega) (by omega) ha (by omega) hm
          exact ⟨w, Ev.step (fun k => by rw [spec_l03Parts.l0, wa4 i (by omega), if_pos h, if_neg h1, wa1 i (by omega)]) e, z⟩
      · refine ⟨acc ++ [s.extract ((a : Int)).toNat s.size], Ev.step (f := fun _ => some (acc ++ [s.extract ((a : Int)).toNat s.size])) (fun k => by rw [spec_l03Parts.l0, wa4 i (by omega), if_neg h, if_pos (by omega), if_pos (by omega), if_pos (by omega)]) (Ev.now _), fun x hx => ?_, by rw [List.length_append, List.length_singleton]; omega⟩
        rcases List.mem_append.1 hx with hx | hx
        · exact hm x hx
        · rw [List.mem_singleton.1 hx]; exact ext_size2 _ _ _
  exact key s.size 0 0 [] (by omega) (by omega) (by omega) (by simp) (fun x hx => by simp at hx)
def smallB (r : List S45) : Prop := r.length ≤ 8 ∧ ∀ b ∈ r, b.f0.size ≤ 1048576 ∧ b.f1.size ≤ 1048576
theorem smallB_nil : smallB [] := ⟨by simp, fun b hb => by simp at hb⟩
theorem readRange_any (s : ByteArray) (hs : s.size ≤ 1048576) : ∃ r ok, Ev (fun k => spec_ReadRange.f k s) (r, ok) ∧ smallB r := by
  obtain ⟨w, ew, hw, hl⟩ := parts3_any s hs
  unfold spec_ReadRange.f
  by_cases h : (s.size : Int) > 200
  · exact ⟨[], false, ev_some (Ev.bind ew (ev_pos h (Ev.step (f := fun _ => some ([], false)) (fun k => by rw [spec_ReadRange.j0, if_pos rfl]) (Ev.now _)))), smallB_nil⟩
  · by_cases h2 : (w.length : Int) > 8
    · exact ⟨[], false, ev_some (Ev.bind ew (ev_neg h (Ev.step (f := fun _ => some ([], false)) (fun k => by rw [spec_ReadRange.j0, if_pos (by exact decide_eq_true h2)]) (Ev.now _)))), smallB_nil⟩
    · have key : ∀ (d i : Nat) (acc : List S45), i + d = w.length → acc.length ≤ i → (∀ b ∈ acc, b.f0.size ≤ 1048576 ∧ b.f1.size ≤ 1048576) → ∃ r ok, Ev (fun k => spec_ReadRange.l0 k acc w (i : Int)) (r, ok) ∧ smallB r := by
        intro d
        induction d with
        | zero =>
          intro i acc hi ha hm
          exact ⟨acc, true, Ev.step (f := fun _ => some (acc, true)) (fun k => by rw [spec_ReadRange.l0, if_neg (by omega)]) (Ev.now _), by omega, hm⟩
        | succ d ih =>
          intro i acc hi ha hm
          have hx : (rdOf ByteArray.empty w (i : Int)).size ≤ s.size := hw _ (getD_mem w i ByteArray.empty (by omega))
          obtain ⟨x, y, o, e, z1, z2⟩ := part3_any (rdOf ByteArray.empty w (i : Int)) (by omega)
          by_cases h3 : o = true
          · obtain ⟨r, ok, e2, z⟩ := ih (i + 1) (acc ++ [(⟨x, y⟩ : S45)]) (by omega) (by rw [List.length_append, List.length_singleton]; omega) (fun b hb => by
              rcases List.mem_append.1 hb with hb | hb
              · exact hm b hb
              · rw [List.mem_singleton.1 hb]; exact ⟨z1, z2⟩)
            exact ⟨r, ok, Ev.step (fun k => by rw [spec_ReadRange.l0, if_pos (by omega), if_pos (by omega), wa1 i (by omega)]) (Ev.bind e (ev_pos h3 (ev_pos (show acc.length < 4398046511104 by omega) e2))), z⟩
          · exact ⟨[], false, Ev.step (fun k => by rw [spec_ReadRange.l0, if_pos (by omega), if_pos (by omega), wa1 i (by omega)]) (Ev.bind e (ev_neg h3 (Ev.now _))), smallB_nil⟩
      obtain ⟨r, ok, e, z⟩ := key w.length 0 [] (by omega) (by simp) (fun b hb => by simp at hb)
      refine ⟨r, ok, ev_some (Ev.bind ew (ev_neg h (Ev.step (fun k => by rw [spec_ReadRange.j0, if_neg (by rw [decide_eq_true_eq]; exact h2)]; rfl) e))), z⟩
theorem text3_any (l : List Int) (i h : Int) (hl : l.length ≤ 1099511627776) (h0 : 0 ≤ i) (hi : i ≤ l.length) :
    ∃ t i' h', Ev (fun k => spec_l03Text.f k l i h) (t, i', h') ∧ t.size ≤ 1048576 ∧ 0 ≤ i' ∧ i' ≤ l.length := by
  have key : ∀ (n : Int) (hn : n ≤ 10) (d j : Nat) (t : ByteArray) (i h : Int), (j : Int) + d = n → t.size ≤ 3000 * j → 0 ≤ i → i ≤ l.length →
      ∃ t' i' h', Ev (fun k => spec_l03Text.l0 k t n (j : Int) l i h) (t', i', h') ∧ t'.size ≤ 1048576 ∧ 0 ≤ i' ∧ i' ≤ l.length := by
    intro n hn d
    induction d with
    | zero =>
      intro j t i h hj ht h0 hi
      exact ⟨t, i, h, Ev.step (f := fun _ => some (t, i, h)) (fun k => by rw [spec_l03Text.l0, if_neg (by omega)]) (Ev.now _), by omega, h0, hi⟩
    | succ d ih =>
      intro j t i h hj ht h0 hi
      have nxt : ∀ (u : ByteArray) (i h : Int), u.size ≤ 3000 * j + 3000 → 0 ≤ i → i ≤ l.length → ∃ t' i' h', Ev (fun k => spec_l03Text.l0 k u n (wrap64 ((j : Int) + 1)) l i h) (t', i', h') ∧ t'.size ≤ 1048576 ∧ 0 ≤ i' ∧ i' ≤ l.length := by
        intro u i h hu h0 hi
        rw [wa1 j (by omega)]
        exact ih (j + 1) u i h (by omega) (by omega) h0 hi
      have hj2 : ∀ (u : ByteArray), u.size ≤ 3000 * j + 4 → ∃ t' i' h', Ev (fun k => spec_l03Text.j2 k u n (j : Int) l i h) (t', i', h') ∧ t'.size ≤ 1048576 ∧ 0 ≤ i' ∧ i' ≤ l.length := by
        intro u hu
        obtain ⟨r, i1, h1, e1, r0, r1, _, p0, p1⟩ := below_any l i h 8 hl h0 hi (by omega)
        have a1 : ∀ x : UInt8, (u ++ (⟨#[x]⟩ : ByteArray)).size = u.size + 1 := fun x => app_size2 _ _
        have a2 : ∀ x y : UInt8, (u ++ (⟨#[x, y]⟩ : ByteArray)).size = u.size + 2 := fun x y => app_size2 _ _
        obtain ⟨v, i2, h2, e2, hv, q0, q1⟩ := right_any l i1 h1 hl p0 p1
        by_cases c0 : r = 0
        · obtain ⟨t', i', h', e, z⟩ := nxt (u ++ (⟨#[42]⟩ : ByteArray)) i1 h1 (by rw [a1]; omega) p0 p1
          exact ⟨t', i', h', Ev.step (fun k => by rw [spec_l03Text.j2, e1, Option.bind_some, if_pos c0, if_pos (show u.size + 1 ≤ 9223372036854775807 by omega)]) e, z⟩
        by_cases c1 : r = 1
        · obtain ⟨t', i', h', e, z⟩ := nxt ((u ++ (⟨#[94]⟩ : ByteArray)) ++ v) i2 h2 (by rw [app_size2, a1]; omega) q0 q1
          exact ⟨t', i', h', Ev.step (fun k => by rw [spec_l03Text.j2, e1, Option.bind_some, if_neg c0, if_pos c1, if_pos (show u.size + 1 ≤ 9223372036854775807 by omega)]) (Ev.bind e2 (ev_pos (show (u ++ (⟨#[94]⟩ : ByteArray)).size + v.size ≤ 9223372036854775807 by rw [a1]; omega) e)), z⟩
        by_cases c2 : r = 2
        · obtain ⟨t', i', h', e, z⟩ := nxt ((u ++ (⟨#[126]⟩ : ByteArray)) ++ v) i2 h2 (by rw [app_size2, a1]; omega) q0 q1
          exact ⟨t', i', h', Ev.step (fun k => by rw [spec_l03Text.j2, e1, Option.bind_some, if_neg c0, if_neg c1, if_pos c2, if_pos (show u.size + 1 ≤ 9223372036854775807 by omega)]) (Ev.bind e2 (ev_pos (show (u ++ (⟨#[126]⟩ : ByteArray)).size + v.size ≤ 9223372036854775807 by rw [a1]; omega) e)), z⟩
        by_cases c3 : r = 3
        · obtain ⟨t', i', h', e, z⟩ := nxt ((u ++ (⟨#[62, 61]⟩ : ByteArray)) ++ v) i2 h2 (by rw [app_size2, a2]; omega) q0 q1
          exact ⟨t', i', h', Ev.step (fun k => by rw [spec_l03Text.j2, e1, Option.bind_some, if_neg c0, if_neg c1, if_neg c2, if_pos c3, if_pos (show u.size + 2 ≤ 9223372036854775807 by omega)]) (Ev.bind e2 (ev_pos (show (u ++ (⟨#[62, 61]⟩ : ByteArray)).size + v.size ≤ 9223372036854775807 by rw [a2]; omega) e)), z⟩
        by_cases c4 : r = 4
        · obtain ⟨v2, i3, h3, e3, hv2, s0, s1⟩ := right_any l i2 h2 hl q0 q1
          have b1 : ((u ++ (⟨#[62, 61]⟩ : ByteArray)) ++ v).size = u.size + 2 + v.size := by rw [app_size2, a2]
          have b2 : (((u ++ (⟨#[62, 61]⟩ : ByteArray)) ++ v) ++ (⟨#[32, 60]⟩ : ByteArray)).size = u.size + 2 + v.size + 2 := by rw [app_size2, b1]; rfl
          obtain ⟨t', i', h', e, z⟩ := nxt ((((u ++ (⟨#[62, 61]⟩ : ByteArray)) ++ v) ++ (⟨#[32, 60]⟩ : ByteArray)) ++ v2) i3 h3 (by rw [app_size2, b2]; omega) s0 s1
          exact ⟨t', i', h', Ev.step (fun k => by rw [spec_l03Text.j2, e1, Option.bind_some, if_neg c0, if_neg c1, if_neg c2, if_neg c3, if_pos c4, if_pos (show u.size + 2 ≤ 9223372036854775807 by omega)]) (Ev.bind e2 (ev_pos (show (u ++ (⟨#[62, 61]⟩ : ByteArray)).size + v.size ≤ 9223372036854775807 by rw [a2]; omega) (ev_pos (show ((u ++ (⟨#[62, 61]⟩ : ByteArray)) ++ v).size + 2 ≤ 9223372036854775807 by rw [b1]; omega) (Ev.bind e3 (ev_pos (show (((u ++ (⟨#[62, 61]⟩ : ByteArray)) ++ v) ++ (⟨#[32, 60]⟩ : ByteArray)).size + v2.size ≤ 9223372036854775807 by rw [b2]; omega) e))))), z⟩
        by_cases c5 : r = 5
        · obtain ⟨w, i3, h3, e3, hw, s0, s1⟩ := pick_any l i1 h1 [(⟨#[49]⟩ : ByteArray), (⟨#[49, 46, 50]⟩ : ByteArray), (⟨#[48]⟩ : ByteArray), (⟨#[48, 46, 48]⟩ : ByteArray), (⟨#[60, 50, 46, 48, 46, 48]⟩ : ByteArray), (⟨#[48, 49]⟩ : ByteArray), (⟨#[49, 46]⟩ : ByteArray), (⟨#[57, 57, 57, 57, 57, 57, 57, 57, 57]⟩ : ByteArray), (⟨#[94, 57, 57, 57, 57, 57, 57, 57, 57, 57, 46, 48, 46, 48]⟩ : ByteArray)] hl p0 p1 (by simp) (by simp)
          have hw1 : w.size ≤ 20 := by
            have : ∀ x ∈ [(⟨#[49]⟩ : ByteArray), (⟨#[49, 46, 50]⟩ : ByteArray), (⟨#[48]⟩ : ByteArray), (⟨#[48, 46, 48]⟩ : ByteArray), (⟨#[60, 50, 46, 48, 46, 48]⟩ : ByteArray), (⟨#[48, 49]⟩ : ByteArray), (⟨#[49, 46]⟩ : ByteArray), (⟨#[57, 57, 57, 57, 57, 57, 57, 57, 57]⟩ : ByteArray), (⟨#[94, 57, 57, 57, 57, 57, 57, 57, 57, 57, 46, 48, 46, 48]⟩ : ByteArray)], x.size ≤ 20 := by decide
            exact this w hw
          obtain ⟨t', i', h', e, z⟩ := nxt (u ++ w) i3 h3 (by rw [app_size2]; omega) s0 s1
          exact ⟨t', i', h', Ev.step (fun k => by rw [spec_l03Text.j2, e1, Option.bind_some, if_neg c0, if_neg c1, if_neg c2, if_neg c3, if_neg c4, if_pos c5, e3, Option.bind_some, if_pos (show u.size + w.size ≤ 9223372036854775807 by omega)]) e, z⟩
        · obtain ⟨t', i', h', e, z⟩ := nxt (u ++ v) i2 h2 (by rw [app_size2]; omega) q0 q1
          exact ⟨t', i', h', Ev.step (fun k => by rw [spec_l03Text.j2, e1, Option.bind_some, if_neg c0, if_neg c1, if_neg c2, if_neg c3, if_neg c4, if_neg c5]) (Ev.bind e2 (ev_pos (show u.size + v.size ≤ 9223372036854775807 by omega) e)), z⟩
      by_cases c0 : (j : Int) > 0
      · have a4 : (t ++ (⟨#[32, 124, 124, 32]⟩ : ByteArray)).size = t.size + 4 := app_size2 _ _
        obtain ⟨t', i', h', e, z⟩ := hj2 (t ++ (⟨#[32, 124, 124, 32]⟩ : ByteArray)) (by rw [a4]; omega)
        exact ⟨t', i', h', Ev.step (fun k => by rw [spec_l03Text.l0, if_pos (by omega), if_pos c0, if_pos (show t.size + 4 ≤ 9223372036854775807 by omega)]) e, z⟩
      · obtain ⟨t', i', h', e, z⟩ := hj2 t (by omega)
        exact ⟨t', i', h', Ev.step (fun k => by rw [spec_l03Text.l0, if_pos (by omega), if_neg c0]) e, z⟩
  have go : ∀ (n : Int), 0 ≤ n → n ≤ 10 → ∀ (i h : Int), 0 ≤ i → i ≤ l.length → ∃ t i' h', Ev (fun k => spec_l03Text.j0 k (⟨#[]⟩ : ByteArray) n l i h) (t, i', h') ∧ t.size ≤ 1048576 ∧ 0 ≤ i' ∧ i' ≤ l.length := by
    intro n hn0 hn i h h0 hi
    obtain ⟨t, i', h', e, z⟩ := key n hn n.toNat 0 (⟨#[]⟩ : ByteArray) i h (by omega) (by decide) h0 hi
    exact ⟨t, i', h', Ev.step (fun k => by rw [spec_l03Text.j0]; rfl) e, z⟩
  obtain ⟨a, i1, h1, e1, r0, r1, _, p0, p1⟩ := below_any l i h 3 hl h0 hi (by omega)
  have ha := r1 (by omega)
  obtain ⟨b, i2, h2, e2, q0, q1⟩ := once_any l i1 h1 16 hl p0 p1 (by omega)
  unfold spec_l03Text.f
  by_cases hb : b = true
  · obtain ⟨c, i3, h3, e3, s0, s1, _, t0, t1⟩ := below_any l i2 h2 2 hl q0 q1 (by omega)
    have hc := s1 (by omega)
    obtain ⟨t, i', h', e, z⟩ := go (wrap64 (8 + c)) (by rw [w64 (by omega) (by omega)]; omega) (by rw [w64 (by omega) (by omega)]; omega) i3 h3 t0 t1
    exact ⟨t, i', h', ev_const e1 (ev_const e2 (ev_pos hb (ev_const e3 e))), z⟩
  · obtain ⟨t, i', h', e, z⟩ := go (wrap64 (1 + a)) (by rw [w64 (by omega) (by omega)]; omega) (by rw [w64 (by omega) (by omega)]; omega) i2 h2 q0 q1
    exact ⟨t, i', h', ev_const e1 (ev_const e2 (ev_neg hb e)), z⟩
theorem range3_any (l : List Int) (i h : Int) (hl : l.length ≤ 1099511627776) (h0 : 0 ≤ i) (hi : i ≤ l.length) :
    ∃ r i' h', Ev (fun k => spec_l03Range.f k l i h) (r, i', h') ∧ smallB r ∧ 0 ≤ i' ∧ i' ≤ l.length := by
  obtain ⟨t, i1, h1, e1, ht, p0, p1⟩ := text3_any l i h hl h0 hi
  obtain ⟨r, ok, e2, hr⟩ := readRange_any t ht
  have off : ∀ (i h : Int), 0 ≤ i → i ≤ l.length → ∃ r' i' h', Ev (fun k => spec_l03Range.j0 k r false l i h) (r', i', h') ∧ smallB r' ∧ 0 ≤ i' ∧ i' ≤ l.length := fun i h h0 hi =>
    ⟨r, i, h, Ev.step (f := fun _ => some (r, i, h)) (fun k => by rw [spec_l03Range.j0, if_neg (by decide)]) (Ev.now _), hr, h0, hi⟩
  unfold spec_l03Range.f
  by_cases c : (r.length : Int) > 0
  · obtain ⟨b, i2, h2, e3, q0, q1⟩ := once_any l i1 h1 12 hl p0 p1 (by omega)
    by_cases hb : b = true
    · subst hb
      obtain ⟨x, i3, h3, e4, x0, x1, _, s0, s1⟩ := below_any l i2 h2 (r.length : Int) hl q0 q1 (by have := hr.1; omega)
      have hx := x1 c
      obtain ⟨u, i4, h4, e5, hu, t0, t1⟩ := pick_any l i3 h3 [(⟨#[120]⟩ : ByteArray), (⟨#[49]⟩ : ByteArray), (⟨#[]⟩ : ByteArray), (⟨#[49, 46, 48, 46, 48, 45]⟩ : ByteArray)] hl s0 s1 (by simp) (by simp)
      have hu1 : u.size ≤ 1048576 := by
        have : ∀ x ∈ [(⟨#[120]⟩ : ByteArray), (⟨#[49]⟩ : ByteArray), (⟨#[]⟩ : ByteArray), (⟨#[49, 46, 48, 46, 48, 45]⟩ : ByteArray)], x.size ≤ 1048576 := by decide
        exact this u hu
      have hm : rd_T45 r x ∈ r := getD_mem r x.toNat z45 (by omega)
      refine ⟨r.set x.toNat (⟨u, (rd_T45 r x).f1⟩ : S45), i4, h4, Ev.bind e1 (Ev.bind e2 (ev_pos c (ev_const e3 (Ev.step (f := fun _ => some (r.set x.toNat (⟨u, (rd_T45 r x).f1⟩ : S45), i4, h4)) (fun k => by rw [spec_l03Range.j0, if_pos rfl, e4, Option.bind_some, e5, Option.bind_some, if_pos x0, if_pos hx]) (Ev.now _))))), ⟨by rw [List.length_set]; exact hr.1, fun y hy => ?_⟩, t0, t1⟩
      rcases List.mem_or_eq_of_mem_set hy with h | h
      · exact hr.2 y h
      · subst h; exact ⟨hu1, (hr.2 _ hm).2⟩
    · rw [Bool.not_eq_true] at hb
      subst hb
      obtain ⟨r', i', h', e, z⟩ := off i2 h2 q0 q1
      exact ⟨r', i', h', Ev.bind e1 (Ev.bind e2 (ev_pos c (ev_const e3 e))), z⟩
  · obtain ⟨r', i', h', e, z⟩ := off i1 h1 p0 p1
    exact ⟨r', i', h', Ev.bind e1 (Ev.bind e2 (ev_neg c e)), z⟩
end Go.Proofs.YtoidompkofomjaaGreatDoor.U

end
section
namespace Go.Proofs.YtoidompkofomjaaGreatDoor.G
open Go.RowKit Go.Proofs.YtoidompkofomjaaGreatDoorW.PrintWords Go.Proofs.YtoidompkofomjaaGreatDoorW.PrintLast Go.Proofs.YtoidompkofomjaaGreatDoorW.PrintMore
attribute [local go_sem] max2_int min2_int max_two min_two max_three min_three max_four min_four
attribute [local go_sem high] Go.Proofs.YtoidompkofomjaaGreatDoor.G.str_gtr Go.Proofs.YtoidompkofomjaaGreatDoor.G.str_leq Go.Proofs.YtoidompkofomjaaGreatDoor.G.str_geq
set_option linter.unusedVariables false
set_option linter.unusedSimpArgs false
def impl_SortVersions.f (l0 : List ByteArray) : Option (List ByteArray) := if l0.length ≤ 1048576 ∧ (∀ x ∈ l0, x.size ≤ 1048576) then some ((Go.Proofs.YtoidompkofomjaaGreatDoor.U.sorted Go.Proofs.YtoidompkofomjaaGreatDoor.U.cmpS ((l0.map Go.Proofs.YtoidompkofomjaaGreatDoor.U.L).filter Go.Proofs.YtoidompkofomjaaGreatDoor.U.isVer)).map Go.Proofs.YtoidompkofomjaaGreatDoor.U.S) else none
def impl_Pick.l0 : Nat → List (S45) → List ByteArray → Int → Option (ByteArray)
 | 0, _, _, _ => none
 | k + 1, x1, x5, x6 => if x6 ≥ 0 then (if 0 ≤ x6 then (if x6 < (x5.length : Int) then ((impl_In.f k (rdOf ByteArray.empty x5 x6) x1).bind fun t656 => (if t656 = true then (some (rdOf ByteArray.empty x5 x6)) else (impl_Pick.l0 k x1 x5 (wrap64 (x6 - 1))))) else (none)) else (none)) else (some (⟨#[]⟩ : ByteArray))
def impl_Pick.f (k : Nat) (l0 : List ByteArray) (l1 : List (S45)) : Option (ByteArray) := (impl_SortVersions.f l0).bind fun t652 => (impl_Pick.l0 k l1 t652 (wrap64 ((t652.length : Int) - 1)))
def impl_Holes.l0 : Nat → List (S45) → List ByteArray → List ByteArray → Bool → List ByteArray → Int → Int → Option (List ByteArray)
 | 0, _, _, _, _, _, _, _ => none
 | k + 1, x1, x6, x7, x8, x15, x16, x17 => if x17 < x16 then (if 0 ≤ x17 then (if x17 < (x15.length : Int) then ((impl_In.f k (rdOf ByteArray.empty x15 x17) x1).bind fun t690 => (if t690 = true then (if x6.length + x7.length < 8796093022208 then (impl_Holes.l0 k x1 (x6 ++ x7) ([] : List ByteArray) true x15 x16 (wrap64 (x17 + 1))) else (none)) else (if x8 = true then (if x7.length < 8796093022208 then (impl_Holes.l0 k x1 x6 (x7 ++ [rdOf ByteArray.empty x15 x17]) x8 x15 x16 (wrap64 (x17 + 1))) else (none)) else (impl_Holes.l0 k x1 x6 x7 x8 x15 x16 (wrap64 (x17 + 1)))))) else (none)) else (none)) else (some x6)
def impl_Holes.f (k : Nat) (l0 : List ByteArray) (l1 : List (S45)) : Option (List ByteArray) := (impl_SortVersions.f l0).bind fun t680 => (impl_Holes.l0 k l1 (([] : List ByteArray)) (([] : List ByteArray)) false t680 (t680.length : Int) 0)
mutual
def laws_FnPick.j0 : Nat → List ByteArray → List (S45) → ByteArray → List ByteArray → List (S45) → List ByteArray → Bool → Option (Bool)
 | 0, _, _, _, _, _, _, _ => none
 | k + 1, x3, x4, x5, x6, x7, x8, x61 => if x61 = true then (some false) else ((impl_ReadVersion.f k x5).bind fun bt776 => (laws_FnPick.l0 k x3 x4 x5 x6 x7 x8 0 bt776.1 bt776.2.1 bt776.2.2.1 bt776.2.2.2.1))
def laws_FnPick.l0 : Nat → List ByteArray → List (S45) → ByteArray → List ByteArray → List (S45) → List ByteArray → Int → Int → Int → Int → List ByteArray → Option (Bool)
 | 0, _, _, _, _, _, _, _, _, _, _, _ => none
 | k + 1, x3, x4, x5, x6, x7, x8, x11, x784000, x784001, x784002, x784003 => if x11 < (x3.length : Int) then (if 0 ≤ x11 then ((impl_ReadVersion.f k (rdOf ByteArray.empty x3 x11)).bind fun bt785 => (if bt785.2.2.2.2 = true then ((impl_In.f k (rdOf ByteArray.empty x3 x11) x4).bind fun t794 => (if t794 = true then (if x5.toList = ([] : List UInt8) then (some false) else ((impl_CompareVersion.f k bt785.1 bt785.2.1 bt785.2.2.1 bt785.2.2.2.1 x784000 x784001 x784002 x784003).bind fun t795 => (if t795 > 0 then (some false) else (laws_FnPick.l0 k x3 x4 x5 x6 x7 x8 (wrap64 (x11 + 1)) x784000 x784001 x784002 x784003)))) else (laws_FnPick.l0 k x3 x4 x5 x6 x7 x8 (wrap64 (x11 + 1)) x784000 x784001 x784002 x784003))) else (laws_FnPick.l0 k x3 x4 x5 x6 x7 x8 (wrap64 (x11 + 1)) x784000 x784001 x784002 x784003))) else (none)) else (laws_FnPick.l1 k x6 x7 x8 0)
def laws_FnPick.l1 : Nat → List ByteArray → List (S45) → List ByteArray → Int → Option (Bool)
 | 0, _, _, _, _ => none
 | k + 1, x6, x7, x8, x14 => if x14 < (x8.length : Int) then (if 0 ≤ x14 then ((impl_In.f k (rdOf ByteArray.empty x8 x14) x7).bind fun t797 => (if t797 = true then (some false) else ((laws_has.f k x6 (rdOf ByteArray.empty x8 x14)).bind fun t799 => (if t799 = true then (laws_FnPick.l1 k x6 x7 x8 (wrap64 (x14 + 1))) else (some false))))) else (none)) else (some true)
end
def laws_FnPick.f (k : Nat) (l0 : List Int) : Option (Bool) := (laws_big.f l0).bind fun t752 => (if t752 = true then (some true) else ((spec_DrawPick.f k l0).bind fun bt753 => ((impl_Pick.f k bt753.1 bt753.2).bind fun t759 => ((spec_DrawHoles.f k l0).bind fun bt760 => ((impl_Holes.f k bt760.1 bt760.2).bind fun t766 => ((spec_Pick.f k bt753.1 bt753.2).bind fun t769 => (if t759.toList = t769.toList then ((spec_Holes.f k bt760.1 bt760.2).bind fun t770 => ((laws_sameTexts.f k t766 t770).bind fun t773 => (if t773 = true then (if t759.toList = ([] : List UInt8) then (laws_FnPick.j0 k bt753.1 bt753.2 t759 bt760.1 bt760.2 t766 false) else ((impl_In.f k t759 bt753.2).bind fun t774 => (if t774 = true then ((laws_has.f k bt753.1 t759).bind fun t775 => (laws_FnPick.j0 k bt753.1 bt753.2 t759 bt760.1 bt760.2 t766 (!t775))) else (laws_FnPick.j0 k bt753.1 bt753.2 t759 bt760.1 bt760.2 t766 true)))) else (laws_FnPick.j0 k bt753.1 bt753.2 t759 bt760.1 bt760.2 t766 true)))) else (laws_FnPick.j0 k bt753.1 bt753.2 t759 bt760.1 bt760.2 t766 true))))))))
def laws_FnPick.Pure : Prop := ∀ (l0 : List Int), (l0.length ≤ maxLen ∧ ∀ x_ ∈ l0, (Lit.int .u8 x_).wf = true) → ∃ k, laws_FnPick.f k l0 = some true
end Go.Proofs.YtoidompkofomjaaGreatDoor.G

end
section
namespace Go.Proofs.YtoidompkofomjaaGreatDoor.VI
open Go Go.RowKit
set_option linter.unusedSimpArgs false
set_option linter.unusedVariables false
inductive VV where
  | s (v : Value)
  | sl (xs : List VV)
  | ag (cs : List VV)
  | tu (vs : List VV)
  | pt (t off : Nat)
  | vw (cs : List VV)
  | cl (f : FuncId) (cap : List VV)
  | sr (t n : Nat)
  | pe (t : Nat) (i : Int) (sz : Nat)
  | ow (e : TypeId) (z : Nat) (xs : List VV)
  | nl
  | bx (cs : List VV)
  | mr (e : TypeId) (sz : Nat) (xs : List VV)
  | un
instance : Inhabited VV := ⟨.un⟩
namespace VV
def cells : VV → List VV
  | .ag cs => cs
  | v => [v]
def dv : VV → VV
  | .ow _ _ xs => .sl xs
  | .nl => .sl []
  | v => v
def int (n : Int) : VV := .s (.int .i64 n)
def byte (n : Int) : VV := .s (.int .u8 n)
def str (b : ByteArray) : VV := .s (.string b)
def bool (b : Bool) : VV := .s (.bool b)
end VV
inductive TK where
  | ptr
  | agg (fs : List (Nat × Nat))
  | slice (e : TypeId)
  | str
  | bool
  | int (k : IntKind)
structure TI where
  sz : Nat
  bytes : Nat
  zero : List Value
  k : TK
structure Cx where
  ti : TypeId → Option TI
  call : FuncId → List VV → Option (VV × List VV)
  m : Nat
def bite {α : Type} (b : Bool) (x y : Option α) : Option α := match b with
  | true => x
  | false => y
@[reducible] def must {α : Type} (b : Bool) (x : Option α) : Option α := match b with
  | true => x
  | false => none
def obind {α β : Type} (x : Option α) (f : α → Option β) : Option β := match x with
  | some a => f a
  | none => none
def vget {β : Type} (xs : List VV) (i : Int) (f : VV → Option β) : Option β := match xs[i.toNat]? with
  | some a => f a
  | none => none
theorem obind_some {α β : Type} {x : Option α} {f : α → Option β} {r : β} (h : obind x f = some r) : ∃ a, x = some a ∧ f a = some r := by
  cases x with
  | none => cases h
  | some a => exact ⟨a, rfl, h⟩
def byL : List VV → Option (List Int)
  | [] => some []
  | .s (.int .u8 n) :: r => obind (byL r) fun l => some (n :: l)
  | _ => none
abbrev Env := List VV
def put (dst : Option Nat) (v : VV) (env : Env) : Env := match dst with
  | some d => env.set d v
  | none => env
def frc1 {α : Type} (v : VV) (k : VV → α) : α := match v with
  | .s x => k (.s x)
  | .sl xs => k (.sl xs)
  | .ag cs => k (.ag cs)
  | .tu vs => k (.tu vs)
  | .pt t o => k (.pt t o)
  | .vw cs => k (.vw cs)
  | .cl f c => k (.cl f c)
  | .sr t n => k (.sr t n)
  | .pe t i z => k (.pe t i z)
  | .ow e z xs => k (.ow e z xs)
  | .nl => k .nl
  | .bx cs => k (.bx cs)
  | .mr e z xs => k (.mr e z xs)
  | .un => k .un
def frcL {α : Type} : List VV → (List VV → α) → α
  | [], k => k []
  | v :: r, k => frc1 v fun v' => frcL r fun r' => k (v' :: r')
def frc {α : Type} (v : VV) (k : VV → α) : α := match v with
  | .ag cs => frcL cs fun c => k (.ag c)
  | .tu vs => frcL vs fun c => k (.tu c)
  | .vw cs => frcL cs fun c => k (.vw c)
  | .cl f cs => frcL cs fun c => k (.cl f c)
  | .bx cs => frcL cs fun c => k (.bx c)
  | .s x => k (.s x)
  | .sl xs => k (.sl xs)
  | .pt t o => k (.pt t o)
  | .sr t n => k (.sr t n)
  | .pe t i z => k (.pe t i z)
  | .ow e z xs => k (.ow e z xs)
  | .nl => k .nl
  | .mr e z xs => k (.mr e z xs)
  | .un => k .un
def setK {α : Type} : Nat → VV → Env → (Env → α) → α
  | _, _, [], k => k []
  | 0, v, _ :: r, k => k (v :: r)
  | n + 1, v, a :: r, k => setK n v r fun r' => k (a :: r')
def nth : Env → Nat → VV
  | [], _ => .un
  | a :: _, 0 => a
  | _ :: r, n + 1 => nth r n
def view (t : Nat) : VV → VV
  | .ow _ _ xs => .sl xs
  | .nl => .sl []
  | .bx _ => .pt t 0
  | .mr _ _ xs => .sr t xs.length
  | v => v
def cellOk : VV → Bool
  | .s (.agg _) => false
  | .s (.tuple _) => false
  | .s _ => true
  | .sl _ => true
  | .ow _ _ _ => true
  | .nl => true
  | _ => false
def liftc : Value → VV
  | .slice none 0 0 => .sl []
  | v => .s v
def lift : Value → VV
  | .slice none 0 0 => .sl []
  | .agg cs => (match cs.toList.all Value.oneCell' with
    | true => .ag (cs.toList.map liftc)
    | false => .un)
  | v => .s v
def zcell : Value → VV
  | .slice none 0 0 => .nl
  | v => .s v
def get (env : Env) (t : Nat) : VV := nth env t
def rdv (env : Env) : Operand → VV
  | .tmp t => view t (get env t)
  | .const v => lift v
  | .func f => .cl f []
  | .global _ => .un
def feeds (ops : List Oper) (t : Nat) : Bool := ops.any fun o => match o.op with
  | .call c => match c.callee with
    | .builtin .append => match c.args.toList with
      | .tmp u :: _ => Nat.beq u t
      | _ => false
    | _ => false
  | _ => false
def hands (ops : List Oper) (t : Nat) : Bool := match ops with
  | [_, o] => (match o.op with
    | .assign (.tmp u) => Nat.beq u t
    | _ => false)
  | _ => false
def fd (ops : List Oper) (dst : Option Nat) : Bool := match dst with
  | some d => feeds ops d || hands ops d
  | none => false
def refers (t : Nat) : VV → Bool
  | .pt u _ => Nat.beq u t
  | .sr u _ => Nat.beq u t
  | .pe u _ _ => Nat.beq u t
  | _ => false
def kill (t : Nat) : VV → VV
  | .pt u o => if Nat.beq u t then .un else .pt u o
  | .sr u n => if Nat.beq u t then .un else .sr u n
  | .pe u i z => if Nat.beq u t then .un else .pe u i z
  | .cl f cap => if cap.any (refers t) then .un else .cl f cap
  | v => v
def wr : IntKind → Int → Int
  | .i64, n => wrap64 n
  | .u8, n => n % 256
  | k, n => k.wrap n
def vint (op : BinOp) (k : IntKind) (x y : Int) : Option (Bool × Value) := match op with
  | .add => some (true, .int k (wr k (x + y)))
  | .sub => some (true, .int k (wr k (x - y)))
  | .mul => some (true, .int k (wr k (x * y)))
  | .quo => some (decide (¬ y = 0), .int k (wr k (x.tdiv y)))
  | .rem => some (decide (¬ y = 0), .int k (x.tmod y))
  | .eql => some (true, .bool (x == y))
  | .neq => some (true, .bool (x != y))
  | .lss => some (true, .bool (decide (x < y)))
  | .leq => some (true, .bool (decide (x ≤ y)))
  | .gtr => some (true, .bool (decide (x > y)))
  | .geq => some (true, .bool (decide (x ≥ y)))
  | .shr => some (decide (0 ≤ y), .int k (x.fdiv (2 ^ (min y.toNat k.bits))))
  | .and => some (true, .int k (k.wrap (BitVec.ofInt k.bits x &&& BitVec.ofInt k.bits y).toNat))
  | .xor => some (true, .int k (k.wrap (BitVec.ofInt k.bits x ^^^ BitVec.ofInt k.bits y).toNat))
  | _ => none
def vstr (op : BinOp) (x y : ByteArray) : Option (Bool × Value) := match op with
  | .add => some (decide (x.size + y.size ≤ 9223372036854775807), .string (x ++ y))
  | .eql => some (true, .bool (x.toList == y.toList))
  | .neq => some (true, .bool (!(x.toList == y.toList)))
  | .lss => some (true, .bool (Op.bytesLess x.toList y.toList))
  | .leq => some (true, .bool (!(Op.bytesLess y.toList x.toList)))
  | .gtr => some (true, .bool (Op.bytesLess y.toList x.toList))
  | .geq => some (true, .bool (!(Op.bytesLess x.toList y.toList)))
  | _ => none
def vbin (tb : Bool) (op : BinOp) (a b : VV) : Option (Bool × Value) := match a, b with
  | .s (.int k x), .s (.int k' y) => if k = k' then vint op k x y else (match op with | .shr => vint op k x y | _ => none)
  | .s (.string x), .s (.string y) => vstr op x y
  | .s (.bool x), .s (.bool y) => match tb, op with
    | true, .eql => some (true, .bool (x == y))
    | true, .neq => some (true, .bool (!(x == y)))
    | _, _ => none
  | _, _ => none
def vun (op : UnOp) (a : VV) : Option Value := match op, a with
  | .not, .s (.bool b) => some (.bool (!b))
  | .neg, .s (.int k n) => some (.int k (wr k (0 - n)))
  | _, _ => none
def bt (s : ByteArray) (i : Int) : Int := if h : i.toNat < s.size then ((s[i.toNat]'h).toNat : Int) else 0
section
variable {R : Type} (C : Cx) (ops : List Oper) (dr : Option (List Nat))
def cellsAt (cs : List VV) (off n : Nat) : Option (List VV) := if ((cs.drop off).take n).length = n then some ((cs.drop off).take n) else none
def mkv (i : TI) (c : List VV) : VV := match i.k with
  | .agg _ => .ag (c.map VV.dv)
  | _ => (c.headD .un).dv
def vload (i : TI) (cs : List VV) (off : Nat) : Option VV := match cellsAt cs off i.sz with
  | some c => some (mkv i c)
  | none => none
def setCells {α : Type} (cs : List α) (off : Nat) : List α → List α
  | [] => cs
  | v :: r => setCells (cs.set off v) (off + 1) r
def plain : VV → Bool
  | .bx _ => false
  | .mr _ _ _ => false
  | _ => true
def plainAt (env : Env) : Option Nat → Bool
  | some d => plain (get env d)
  | none => true
def refersD (t : Nat) : VV → Bool
  | .cl _ cap => cap.any (refers t)
  | v => refers t v
def getB (dr : Option (List Nat)) (env : Env) (t : Nat) : VV := match dr with
  | some l => (match l.any (Nat.beq t) with
    | true => .un
    | false => get env t)
  | none => get env t
def drOk : VV → Bool
  | .pt _ _ => false
  | .cl _ cap => cap.all fun | .vw _ => true | _ => false
  | _ => true
def drArgs (dr : Option (List Nat)) (l : List VV) : Bool := match dr with
  | some _ => l.all drOk
  | none => true
def vset (t : Nat) (v : VV) (env : Env) (K : Env → Option R) : Option R := frc v fun v' => setK t v' env K
def vput (dst : Option Nat) (v : VV) (env : Env) (K : Env → Option R) : Option R := match dst with
  | none => K env
  | some d => (match dr with
    | some l => (match plain (get env d) && (plain v && l.all (fun t => !(refersD t v))) with
      | true => vset d v env K
      | false => none)
    | none => vset d v env K)
def vnew (d : Nat) (b : VV) (env : Env) (K : Env → Option R) : Option R := match dr with
  | some _ => (match env.any (refersD d) || !(plain (get env d)) with
    | false => vset d b env K
    | true => none)
  | none => frcL (env.map (kill d)) fun env' => vset d b env' K
def vmove (own : Bool) (dst : Option Nat) (x : Operand) (env : Env) (K : Env → Option R) : Option R := match x with
  | .tmp t => match get env t with
    | .ow e z xs => (match own with
      | true => vset t (.sl xs) env fun env' => vput dr dst (.ow e z xs) env' K
      | false => vput dr dst (.sl xs) env K)
    | .nl => (match own with
      | true => vput dr dst .nl env K
      | false => vput dr dst (.sl []) env K)
    | _ => vput dr dst (rdv env x) env K
  | .const (.slice none 0 0) => (match own with
      | true => vput dr dst .nl env K
      | false => vput dr dst (.sl []) env K)
  | _ => vput dr dst (rdv env x) env K
def vbnd : Option VV → Option (Option Int)
  | none => some none
  | some (.s (.int _ n)) => some (some n)
  | _ => none
def bndOk (n : Nat) (l h : Int) : Bool := decide (0 ≤ h) && decide (h ≤ (n : Int)) && (decide (0 ≤ l) && decide (l ≤ h))
def fillv (ti : TI) : List VV → List (Nat × VV) → Option (List VV)
  | cs, [] => some cs
  | cs, (i, v) :: rest => match ti.k with
    | .agg fs => match fs[i]? with
      | some (off, sz) => if v.cells.length = sz ∧ off + sz ≤ cs.length ∧ v.cells.all cellOk = true then fillv ti (setCells cs off v.cells) rest else none
      | none => none
    | _ => none
def fills (z : Nat) : List VV → List (Nat × VV) → Option (List VV)
  | cs, [] => some cs
  | cs, (i, v) :: rest => if v.cells.length = z ∧ i < cs.length ∧ v.cells.all cellOk = true then fills z (cs.set i v) rest else none
def zeroV (i : TI) : VV := match i.k with
  | .agg _ => .ag (i.zero.map liftc)
  | _ => (i.zero.map liftc).headD .un
def capv (env : Env) : VV → VV
  | .pt t o => match get env t with
    | .bx cs => .vw ((cs.map VV.dv).drop o)
    | _ => .un
  | v => v
def argv {α : Type} (env : Env) : List Operand → (List VV → List Nat → α) → α
  | [], k => k [] []
  | x :: r, k => match rdv env x with
    | .pt t o => (match o with
      | 0 => (match get env t with
        | .bx cs => argv env r fun vs io => k (.bx cs :: vs) (t :: io)
        | _ => argv env r fun vs io => k (.un :: vs) io)
      | _ + 1 => argv env r fun vs io => k (.un :: vs) io)
    | .cl f cap => frcL (cap.map (capv env)) fun cap' => argv env r fun vs io => k (.cl f cap' :: vs) io
    | v => argv env r fun vs io => k (v :: vs) io
def capK {α : Type} : List VV → List VV → (List VV → α) → α
  | [], cap, k => k cap
  | v :: r, cap, k => capK r cap fun l => k (v :: l)
def backs (env : Env) : List Nat → List VV → Env
  | t :: ts, v :: vs => backs (env.set t v) ts vs
  | _, _ => env
def backsK {R : Type} (env : Env) : List Nat → List VV → (Env → Option R) → Option R
  | t :: ts, v :: vs, K => vset t v env fun env' => backsK env' ts vs K
  | _, _, K => K env
def dataC : VV → Bool
  | .s _ => true
  | .sl _ => true
  | _ => false
def argOk : VV → Bool
  | .s _ => true
  | .sl _ => true
  | .ag _ => true
  | .vw _ => true
  | .bx cs => cs.all dataC
  | .cl _ cap => cap.all fun | .vw _ => true | _ => false
  | _ => false
def noCl : VV → Bool
  | .cl _ cap => cap.isEmpty
  | .vw _ => false
  | _ => true
def resOk : VV → Bool
  | .s _ => true
  | .sl _ => true
  | .ag _ => true
  | .tu _ => true
  | .ow _ _ _ => true
  | .nl => true
  | _ => false
def isPtr (C : Cx) (t : TypeId) : Bool := match C.ti t with
  | some i => (match i.k with
    | .ptr => true
    | _ => false)
  | none => true
def nodupB : List Nat → Bool
  | [] => true
  | a :: r => !(r.any (Nat.beq a)) && nodupB r
def isCap : VV → Bool
  | .pt _ _ => true
  | .vw _ => true
  | _ => false
def isBool (C : Cx) (t : TypeId) : Bool := match C.ti t with
  | some i => (match i.k with
    | .bool => true
    | _ => false)
  | none => false
def vcall (f : FuncId) (dst : Option Nat) (vs : List VV) (io : List Nat) (sio : Bool) (env : Env) (K : Env → Option R) : Option R :=
  match vs.all argOk && nodupB io && (io.isEmpty || (sio && vs.all noCl)) with
  | true => obind (C.call f vs) fun r => (match resOk r.1 with
    | true => backsK env io r.2 fun env' => vput dr dst r.1 env' K
    | false => none)
  | false => none
def vop (o : Oper) (env : Env) (K : Env → Option R) : Option R :=
  let val (v : VV) : Option R := vput dr o.dst v env K
  match o.op with
  | .move x => vmove dr (fd ops o.dst) o.dst x env K
  | .assign x => vmove dr true o.dst x env K
  | .pick c a b => match rdv env c with
    | .s (.bool t) => bite t (val (rdv env a)) (val (rdv env b))
    | _ => none
  | .unOp op _ x => match vun op (rdv env x) with
    | some v => val (.s v)
    | none => none
  | .binOp op t x y _ => match vbin (isBool C t) op (rdv env x) (rdv env y) with
    | some (b, v) => must b (val (.s v))
    | none => none
  | .alloc ty => match C.ti ty, o.dst with
    | some i, some d => vnew dr d (.bx (i.zero.map zcell)) env K
    | _, _ => none
  | .box ty x => match C.ti ty, o.dst with
    | some i, some d => if (rdv env x).cells.length = i.sz ∧ (rdv env x).cells.all cellOk = true then vnew dr d (.bx (rdv env x).cells) env K else none
    | _, _ => none
  | .load ty x => match C.ti ty with
    | none => none
    | some i => match rdv env x with
      | .vw cs => match vload i cs 0 with
        | some v => val v
        | none => none
      | .pt t off => match getB dr env t with
        | .bx cs =>
          (match fd ops o.dst with
          | true => (match i.k, cs[off]? with
             | .slice _, some (.ow e z xs) => vset t (.bx (cs.set off (.sl xs))) env fun env' => vput dr o.dst (.ow e z xs) env' K
             | .slice _, some .nl => val .nl
             | _, _ => none)
          | false => (match vload i cs off with
            | some v => val v
            | none => none))
        | _ => none
      | _ => none
  | .store ty x y => match o.dst, C.ti ty with
    | none, some i => match rdv env x with
      | .pt t off => match get env t with
        | .bx cs => if (rdv env y).cells.length = i.sz ∧ off + i.sz ≤ cs.length ∧ (rdv env y).cells.all cellOk = true then
            (match y with
             | .tmp u => (match get env u with
               | .ow e z xs => vset u (.sl xs) env fun env' => vset t (.bx (cs.set off (.ow e z xs))) env' K
               | .nl => vset t (.bx (cs.set off .nl)) env K
               | _ => vset t (.bx (setCells cs off (rdv env y).cells)) env K)
             | _ => vset t (.bx (setCells cs off (rdv env y).cells)) env K) else none
        | _ => none
      | .pe t j sz => match get env t with
        | .mr e sz' xs => if (rdv env y).cells.length = i.sz ∧ i.sz = sz ∧ sz = sz' ∧ (rdv env y).cells.all cellOk = true then bite (decide (0 ≤ j) && decide (j < (xs.length : Int))) (frc (rdv env y) fun v => vset t (.mr e sz' (xs.set j.toNat v)) env K) none else none
        | _ => none
      | _ => none
    | _, _ => none
  | .nilCheck x => match rdv env x with
    | .pt t off => val (.pt t off)
    | _ => none
  | .fieldAddr st x f => match C.ti st with
    | some i => match i.k with
      | .agg fs => match fs[f]? with
        | some (off, sz) => if sz = 0 then none else match rdv env x with
          | .pt t o => val (.pt t (o + off))
          | .vw cs => val (.vw (cs.drop off))
          | _ => none
        | none => none
      | _ => none
    | none => none
  | .indexAddr t x ix => match C.ti t with
    | some i => match i.k with
      | .slice e => match C.ti e with
        | some ie => match rdv env x, rdv env ix with
          | .sl xs, .s (.int _ j) => bite (decide (0 ≤ j) && decide (j < (xs.length : Int))) (vget xs j fun v => if v.cells.length = ie.sz then val (.vw v.cells) else none) none
          | .sr u n, .s (.int _ j) => bite (decide (0 ≤ j) && decide (j < (n : Int))) (val (.pe u j ie.sz)) none
          | _, _ => none
        | none => none
      | _ => none
    | none => none
  | .index t x ix => match C.ti t with
    | some i => match i.k, rdv env x, rdv env ix with
      | .str, .s (.string s), .s (.int _ j) => bite (decide (0 ≤ j) && decide (j < (s.size : Int))) (val (.byte (bt s j))) none
      | _, _, _ => none
    | none => none
  | .extract x n => match rdv env x with
    | .tu vs => match vs[n]? with
      | some v => val v
      | none => none
    | _ => none
  | .build t parts => match C.ti t with
    | some i => match i.k with
      | .agg _ => (match fillv i (i.zero.map liftc) (parts.toList.map fun p => (p.1, rdv env p.2)) with
        | some cs => val (.ag cs)
        | none => none)
      | _ => none
    | none => none
  | .buildSlice t len parts => match C.ti t with
    | some i => match i.k with
      | .slice e => match C.ti e with
        | some ie => if 0 < ie.sz ∧ len * ie.sz ≤ 16777216 then (match fills ie.sz (List.replicate len (zeroV ie)) (parts.toList.map fun p => (p.1, rdv env p.2)) with
          | some xs => frcL xs fun xs' => val (.ow e ie.sz xs')
          | none => none) else none
        | none => none
      | _ => none
    | none => none
  | .makeSlice t l c => match C.ti t with
    | some i => match i.k with
      | .slice e => match C.ti e with
        | some ie => match rdv env l, rdv env c, o.dst with
          | .s (.int .i64 n), .s (.int .i64 n'), some d => if 0 < ie.sz ∧ 0 < ie.bytes then
              bite (decide (n' = n) && (decide (0 ≤ n) && decide (n.toNat * ie.bytes ≤ 281474976710656))) (vnew dr d (.mr e ie.sz (List.replicate n.toNat (zeroV ie))) env K) none else none
          | _, _, _ => none
        | none => none
      | _ => none
    | none => none
  | .makeFunc (.func f) first cap => if first.size = 0 then (match (cap.toList.map (rdv env)).all isCap with
    | true => val (.cl f (cap.toList.map (rdv env)))
    | false => none) else none
  | .convert src dst x => match C.ti src, C.ti dst with
    | some i, some j => match i.k, j.k, rdv env x with
      | .int _, .int k, .s (.int _ n) => val (.s (.int k (wr k n)))
      | .str, .str, .s (.string b) => val (.s (.string b))
      | .slice e, .str, .sl xs => (match C.ti e with
        | some ie => (match ie.k with
          | .int .u8 => obind (byL xs) fun l => val (.str (strOfNums l))
          | _ => none)
        | none => none)
      | _, _, _ => none
    | _, _ => none
  | .slice t x lo hi mx => match mx, C.ti t with
    | none, some i => match i.k, rdv env x with
      | .str, .s (.string s) => (match vbnd (lo.map (rdv env)), vbnd (hi.map (rdv env)) with
        | some l, some h => bite (bndOk s.size (l.getD 0) (h.getD s.size)) (val (.str (s.extract (l.getD 0).toNat (h.getD s.size).toNat))) none
        | _, _ => none)
      | .slice e, .sl xs => (match C.ti e, vbnd (lo.map (rdv env)), vbnd (hi.map (rdv env)) with
        | some ie, some l, some h => bite (bndOk xs.length (l.getD 0) (h.getD xs.length) && xs.all fun v => Nat.beq v.cells.length ie.sz) (val (.sl ((xs.take (h.getD xs.length).toNat).drop (l.getD 0).toNat))) none
        | _, _, _ => none)
      | _, _ => none
    | _, _ => none
  | .call c => match c.callee with
    | .builtin .len => match c.args.toList, c.argTypes.toList with
      | [x], [t] => match C.ti t with
        | some i => match i.k, rdv env x with
          | .str, .s (.string b) => val (.int b.size)
          | .slice _, .sl xs => val (.int xs.length)
          | .slice _, .sr _ n => val (.int n)
          | _, _ => none
        | none => none
      | _, _ => none
    | .builtin .min => match c.args.toList with
      | [x, y] => match rdv env x, rdv env y with
        | .s (.int k n), .s (.int k' n') => val (.s (.int k (if n' < n then n' else n)))
        | _, _ => none
      | _ => none
    | .builtin .append => match c.args.toList, c.argTypes.toList with
      | [.tmp u, y], [t, t'] => if Nat.beq t t' then (match C.ti t with
        | some i => match i.k with
          | .slice e => match C.ti e with
            | some ie => if 0 < ie.sz ∧ 0 < ie.bytes then (match get env u, rdv env y with
              | .ow e' z xs, .sl ys => if Nat.beq e' e && Nat.beq z ie.sz then bite (decide ((xs.length + ys.length) * ie.bytes ≤ 140737488355328) && ys.all fun v => Nat.beq v.cells.length ie.sz) (vset u (.sl xs) env fun env' => vput dr o.dst (.ow e ie.sz (xs ++ ys)) env' K) none else none
              | .nl, .sl ys => bite (decide (ys.length * ie.bytes ≤ 140737488355328) && ys.all fun v => Nat.beq v.cells.length ie.sz) (vset u (.sl []) env fun env' => vput dr o.dst (.ow e ie.sz ys) env' K) none
              | _, _ => none) else none
            | none => none
          | _ => none
        | none => none) else none
      | _, _ => none
    | .value x => match rdv env x with
      | .cl f cap => match drArgs dr (c.args.toList.map (rdv env)) && drArgs dr [.cl f cap] with
        | false => none
        | true => argv env c.args.toList fun vs io => frcL (cap.map (capv env)) fun cap' => capK vs cap' fun vs' => vcall C dr f o.dst vs' io (c.argTypes.toList.any (isPtr C)) env K
      | _ => none
    | _ => none
  | _ => none
def seen (ops : List Oper) (env : Env) (j : Nat) : Option (Option Bool) := match ops[j]? with
  | some o => match o.dst with
    | some t => match get env t with
      | .s (.bool b) => some (some b)
      | .s _ => some none
      | _ => none
    | none => none
  | none => none
def vops : List Oper → Env → (Env → Option R) → Option R
  | [], env, K => K env
  | o :: r, env, K => match o.guard with
    | none => vop C ops dr o env fun env' => vops r env' K
    | some (j, want) => match seen ops env j with
      | some (some b) => bite (b == want) (vop C ops dr o env fun env' => vops r env' K) (vput dr o.dst (.s undef) env fun env' => vops r env' K)
      | some none => vput dr o.dst (.s undef) env fun env' => vops r env' K
      | none => none
end
def clr (l : List Nat) : Nat → Env → Env
  | _, [] => []
  | i, v :: r => (match l.any (Nat.beq i) with
    | true => v
    | false => .un) :: clr l (i + 1) r
def clear : Option (List Nat) → Env → Env
  | none, env => env
  | some l, env => clr l 0 env
def clearK {α : Type} (l : Option (List Nat)) (env : Env) (k : Env → α) : α := frcL (clear l env) k
def iter {R : Type} (body : Env → (Exit → Env → Option R) → Option R) : Nat → Env → (Exit → Env → Option R) → Option R
  | 0, _, _ => none
  | n + 1, env, K => body env fun e env' => match e with
    | .normal => iter body n env' K
    | e => K e env'
def befores : List Oper → List Nat → List Nat
  | [], acc => acc
  | o :: r, acc => befores r (acc ++ [o.after.toList.foldl (fun s e => match Region.binds .any e with
    | true => s ||| (1 <<< e.on) ||| acc.getD e.on 0
    | false => s) 0])
def quietB (C : Cx) (ops : List Oper) (o : Oper) : Bool := match o.op with
  | .move _ => !(fd ops o.dst)
  | .load _ _ => !(fd ops o.dst)
  | .pick _ _ _ => true
  | .unOp _ _ _ => true
  | .binOp _ _ _ _ _ => true
  | .nilCheck _ => true
  | .fieldAddr _ _ _ => true
  | .indexAddr _ _ _ => true
  | .index _ _ _ => true
  | .extract _ _ => true
  | .build _ _ => true
  | .buildSlice _ _ _ => true
  | .makeFunc _ _ _ => true
  | .convert _ _ _ => true
  | .slice _ _ _ _ _ => true
  | .alloc _ => true
  | .call c => (match c.callee with
    | .builtin .len => true
    | .builtin .min => true
    | .value _ => !(c.argTypes.toList.any (isPtr C))
    | _ => false)
  | _ => false
def allocs (ops : List Oper) : List Nat := ops.filterMap fun o => match o.op with
  | .alloc _ => o.dst
  | _ => none
def sdOf (ops : List Oper) (o : Oper) : Option Nat := match o.op with
  | .move (.tmp t) => (match fd ops o.dst with
    | true => some t
    | false => none)
  | .call c => (match c.callee, c.args.toList with
    | .builtin .append, [.tmp u, _] => some u
    | _, _ => none)
  | _ => none
def ownMove (ops : List Oper) (o : Oper) : Bool := match sdOf ops o, o.guard, o.dst with
  | some t, none, some d => !(Nat.beq t d)
  | _, _, _ => false
def wl (ops : List Oper) (o : Oper) : List Nat := match o.dst, sdOf ops o with
  | some d, some t => [d, t]
  | some d, none => [d]
  | none, some t => [t]
  | none, none => []
def wrIn (ops : List Oper) (o : Oper) (l : List Nat) : Bool := (wl ops o).any fun d => l.any (Nat.beq d)
def quietN (bs : List Nat) : Nat → Nat
  | 0 => 0
  | n + 1 => match Nat.beq (bs.getD n 0) (2 ^ n - 1) with
    | true => quietN bs n
    | false => n + 1
def anyOrder (C : Cx) (ops : List Oper) : Bool :=
  let bs := befores ops []
  let n := quietN bs ops.length
  (List.range ops.length).all fun j => match ops[j]? with
    | none => false
    | some y => y.after.toList.all (fun e => !(Region.binds .any e) || Nat.blt e.on j) && (Nat.ble n j || ((quietB C ops y || ownMove ops y) && (List.range j).all fun i => match ops[i]? with
      | none => false
      | some x => (bs.getD j 0).testBit i || (!(wrIn ops x (wl ops y)) && (!(wrIn ops x (y.looksAt ops.toArray)) && !(wrIn ops y (x.looksAt ops.toArray))))))
def run {R : Type} (C : Cx) (kp : Nat → Option (List Nat)) : Code → Nat → Env → (Exit → Env → Option R) → Option R
  | .skip, _, env, K => K .normal env
  | .region _ ops draw, _, env, K => (match draw with
    | true => bite (anyOrder C ops.toList) (match (allocs ops.toList).any (fun d => env.any (refersD d)) with
      | false => vops C ops.toList (some (allocs ops.toList)) ops.toList env (K .normal)
      | true => none) none
    | false => vops C ops.toList none ops.toList env (K .normal))
  | .seq x y, b, env, K => run C kp x b env fun e env' => match e with
    | .normal => run C kp y b env' K
    | e => K e env'
  | .cond c x y, b, env, K => (match rdv env c with
    | .s (.bool t) => bite t (run C kp x b env K) (run C kp y b env K)
    | _ => none)
  | .block id c, _, env, K => run C kp c id env fun e env' => match e with
    | .exit i => (match Nat.beq i id with
      | true => K .normal env'
      | false => K (.exit i) env')
    | e => K e env'
  | .loop c, b, env, K => iter (fun env' K' => clearK (kp b) env' fun e => run C kp c b e K') C.m env K
  | .exit id, _, env, K => K (.exit id) env
  | .ret, _, env, K => K .ret env
  | _, _, _, _ => none
def resv (ti : TypeId → Option TI) (env : Env) : ResultVar → Option VV
  | .tmp t => (match get env t with
    | .ow e z xs => some (.ow e z xs)
    | .nl => some .nl
    | .mr e z xs => some (.ow e z xs)
    | .sr u n => (match get env u with
      | .mr e z xs => must (Nat.beq xs.length n) (some (.ow e z xs))
      | _ => none)
    | .s v => some (.s v)
    | .sl xs => some (.sl xs)
    | .ag cs => some (.ag cs)
    | .tu cs => some (.tu cs)
    | _ => none)
  | .cell a ty => (match get env a, ti ty with
    | .bx cs, some i => vload i cs 0
    | _, _ => none)
def resvs (ti : TypeId → Option TI) (env : Env) : List ResultVar → Option (List VV)
  | [] => some []
  | r :: rs => match resv ti env r, resvs ti env rs with
    | some v, some vs => some (v.dv :: vs)
    | _, _ => none
def outs (env : Env) : Nat → List VV → Option (List VV)
  | _, [] => some []
  | _, .bx _ :: _ => none
  | i, _ :: r => outs env (i + 1) r
def fixnl (ti : TypeId → Option TI) (fn : Func) (v : VV) : VV := match v with
  | .nl => (match fn.resultTypes.toList with
    | [t] => (match ti t with
      | some i => (match i.k with
        | .slice e => (match ti e with
          | some ie => .ow e ie.sz []
          | none => .nl)
        | _ => .nl)
      | none => .nl)
    | _ => .nl)
  | v => v
def fin (ti : TypeId → Option TI) (fn : Func) (args : List VV) (env : Env) : Option (VV × List VV) :=
  match outs env 0 args with
  | some os => (match fn.results.toList with
    | [r] => (match resv ti env r with
      | some v => some (fixnl ti fn v, os)
      | none => none)
    | rs => (match resvs ti env rs with
      | some vs => some (.tu vs, os)
      | none => none))
  | none => none
def start (fn : Func) (args : List VV) : Env := args ++ List.replicate (fn.ntmps - args.length) .un
def body (C : Cx) (kp : Nat → Option (List Nat)) (fn : Func) (c : Code) (args : List VV) : Option (VV × List VV) :=
  run C kp c 0 (start fn args) fun e env => match e with
    | .normal => fin C.ti fn args env
    | .ret => fin C.ti fn args env
    | _ => none
def isBx : VV → Bool
  | .bx _ => true
  | _ => false
def callv (P : Program) (ti : TypeId → Option TI) (keep : FuncId → Nat → Option (List Nat)) (G : FuncId → Option (List VV → Option (VV × List VV))) : Nat → FuncId → List VV → Option (VV × List VV)
  | 0, _, _ => none
  | m + 1, f, args => match G f with
    | some g => g args
    | none => match P.funcs[f]? with
      | some fn => (match fn.name == "runtime.NumGoroutine" || args.any isBx, fn.body with
        | false, some c => body ⟨ti, callv P ti keep G m, m⟩ (keep f) fn c args
        | _, _ => none)
      | none => none
theorem callv_enter {P : Program} {ti : TypeId → Option TI} {keep : FuncId → Nat → Option (List Nat)} {G : FuncId → Option (List VV → Option (VV × List VV))} {m : Nat} {f : FuncId} {args : List VV} {fn : Func} {c : Code} (hG : G f = none) (hf : P.funcs[f]? = some fn) (hname : (fn.name == "runtime.NumGoroutine") = false) (hb : fn.body = some c) (hx : args.any isBx = false) :
    callv P ti keep G (m + 1) f args = body ⟨ti, callv P ti keep G m, m⟩ (keep f) fn c args := by
  rw [callv]; simp only [hG, hf, hname, hb, hx, Bool.or_self]
theorem callv_given {P : Program} {ti : TypeId → Option TI} {keep : FuncId → Nat → Option (List Nat)} {G : FuncId → Option (List VV → Option (VV × List VV))} {m : Nat} {f : FuncId} {args : List VV} {g : List VV → Option (VV × List VV)} (hG : G f = some g) :
    callv P ti keep G (m + 1) f args = g args := by
  rw [callv]; simp only [hG]
end Go.Proofs.YtoidompkofomjaaGreatDoor.VI

end
