/- A part of the proof that the law FnExactHoles answers true at every input that its row speaks of. Conditions: the row's own. -/
import Derived.Test.YtcfeihimmboghaaGreatDoorMFnExactHoles2
import Derived.Test.YtcfeihimmboghaaGreatDoorKFnExactHoles0
import Derived.Test.YtcfeihimmboghaaGreatDoorMFnExactHoles1
import Derived.Test.YtcfeihimmboghaaGreatDoorKFnExactHoles2
import Derived.Test.YtcfeihimmboghaaGreatDoorKFnExactHoles1
import Derived.Test.YtcfeihimmboghaaGreatDoorMFnExactHoles0
section
namespace Go.Proofs.YtcfeihimmboghaaGreatDoor.U
open Go Go.RowKit Go.Proofs.YtcfeihimmboghaaGreatDoorW.PrintWords Go.Proofs.YtcfeihimmboghaaGreatDoor.G
set_option linter.unusedVariables false
set_option linter.unusedSimpArgs false
theorem ins_take (s : B) : ∀ (j : Nat) (out : List B), (∀ w ∈ out.take j, cmpS w s < 0) → ins cmpS s out = out.take j ++ ins cmpS s (out.drop j)
  | 0, out, _ => by simp
  | j + 1, [], _ => by simp
  | j + 1, w :: r, h => by
    rw [ins, if_pos (h w (by simp)), ins_take s j r fun x hx => h x (by simp [hx])]
    simp
theorem rd_S (out : List B) (j : Nat) (h : j < out.length) : rdOf ByteArray.empty (out.map S) (j : Int) = S (out.getD j []) := by
  unfold rdOf
  rw [List.getD_eq_getElem?_getD, List.getD_eq_getElem?_getD]
  simp [h]
theorem splice (out : List B) (s : ByteArray) (j : Nat) (hj : j ≤ out.length) : ([] ++ ((out.map S).take ((j : Int)).toNat).drop (Int.toNat 0)) ++ [s] ++ ((out.map S).take (Int.toNat ((out.map S).length : Int))).drop ((j : Int)).toNat = (out.take j ++ L s :: out.drop j).map S := by
  rw [Int.toNat_natCast, Int.toNat_natCast, List.take_length, List.nil_append]
  simp [List.map_take, List.map_drop]
theorem sort_ins (l : List ByteArray) (hl : l.length ≤ 1048576) (i : Nat) (hi : i < l.length) (out : List B) (hol : out.length ≤ 1048576) (ho : ∀ w ∈ out, w.length ≤ 1048576) {r : List ByteArray}
    (h : Ev (fun k => spec_SortVersions.l0 k l ((ins cmpS (L (l.getD i ByteArray.empty)) out).map S) ((i + 1 : Nat) : Int)) r) : ∀ e j, j + e = out.length → (∀ w ∈ out.take j, cmpS w (L (l.getD i ByteArray.empty)) < 0) →
    Ev (fun k => spec_SortVersions.l1 k l (out.map S) (i : Int) (j : Int) (readVer (L (l.getD i ByteArray.empty))).1 (readVer (L (l.getD i ByteArray.empty))).2.1 (readVer (L (l.getD i ByteArray.empty))).2.2.1 (readVer (L (l.getD i ByteArray.empty))).2.2.2.1) r := by
  have es : rdOf ByteArray.empty l (i : Int) = l.getD i ByteArray.empty := rfl
  generalize hs : l.getD i ByteArray.empty = s at *
  have hml : (out.map S).length = out.length := List.length_map ..
  intro e
  induction e with
  | zero =>
    intro j hj hlt
    have hins : ins cmpS (L s) out = out.take j ++ L s :: out.drop j := by
      rw [ins_take (L s) j out hlt, List.drop_of_length_le (by omega)]; rfl
    rw [hins, ← splice out s j (by omega)] at h
    refine Ev.step (f := fun k => spec_SortVersions.j1 k l (out.map S) (i : Int) (j : Int)) (fun k => by rw [spec_SortVersions.l1, if_neg (by omega)]) ?_
    refine Ev.step (fun k => by rw [spec_SortVersions.j1, if_neg (by omega), if_pos (by omega), if_pos (by omega), if_pos (by omega), if_pos (by omega), if_pos (by omega), es, wa1 i (by omega)]) ?_
    exact h
  | succ e ih =>
    intro j hj hlt
    have hjl : j < out.length := by omega
    have hw := ho _ (getD_mem out j [] hjl)
    refine Ev.step (fun k => by rw [spec_SortVersions.l1, if_pos (by omega), if_pos (by omega), rd_S out j hjl, wa1 j (by omega)]) ?_
    have hrv := spec_ReadVersion_ev (S (out.getD j [])) (by rw [size_S]; exact hw)
    rw [L_S] at hrv
    refine Ev.bind hrv (Ev.bind (spec_compare_ev (out.getD j []) (L s)) ?_)
    have hdrop := drop_getD out j [] hjl
    by_cases hc : cmpS (out.getD j []) (L s) < 0
    · refine ev_neg (by omega) (ih (j + 1) (by omega) fun w hw' => ?_)
      rw [List.take_succ_eq_append_getElem hjl, List.mem_append, List.mem_singleton] at hw'
      rcases hw' with hw' | rfl
      · exact hlt w hw'
      · rw [List.getD_eq_getElem?_getD, List.getElem?_eq_getElem hjl] at hc; exact hc
    · refine ev_pos (by omega) ?_
      by_cases he : out.getD j [] = L s
      · have hins : ins cmpS (L s) out = out := by
          rw [ins_take (L s) j out hlt, hdrop, ins, if_neg hc, if_pos he, ← hdrop]
          exact List.take_append_drop j out
        rw [hins] at h
        refine Ev.step (fun k => by rw [spec_SortVersions.j1, if_pos (by omega), if_pos (by omega), if_pos (by omega), if_pos (by omega), es, rd_S out j hjl, if_pos (by rw [toList_L, toList_L, L_S]; exact he), wa1 i (by omega)]) ?_
        exact h
      · have hins : ins cmpS (L s) out = out.take j ++ L s :: out.drop j := by
          rw [ins_take (L s) j out hlt, hdrop, ins, if_neg hc, if_neg he]
        rw [hins, ← splice out s j (by omega)] at h
        refine Ev.step (fun k => by rw [spec_SortVersions.j1, if_pos (by omega), if_pos (by omega), if_pos (by omega), if_pos (by omega), es, rd_S out j hjl, if_neg (by rw [toList_L, toList_L, L_S]; exact he), if_pos (by omega), if_pos (by omega), if_pos (by omega), if_pos (by omega), if_pos (by omega), wa1 i (by omega)]) ?_
        exact h
theorem ins_len (s : B) : ∀ out : List B, (ins cmpS s out).length ≤ out.length + 1
  | [] => by simp [ins]
  | w :: r => by
    rw [ins]
    split
    · have := ins_len s r; simp only [List.length_cons]; omega
    · split <;> simp
theorem spec_SortVersions_ev (l : List ByteArray) (hl : l.length ≤ 1048576) (hs : ∀ x ∈ l, x.size ≤ 1048576) : Ev (fun k => spec_SortVersions.f k l) ((sorted cmpS ((l.map L).filter isVer)).map S) := by
  unfold spec_SortVersions.f sorted
  have key : ∀ d i (out : List B), i + d = l.length → out.length ≤ i → (∀ w ∈ out, w.length ≤ 1048576) → Ev (fun k => spec_SortVersions.l0 k l (out.map S) (i : Int)) (((((l.drop i).map L).filter isVer).foldl (fun o s => ins cmpS s o) out).map S) := by
    intro d
    induction d with
    | zero =>
      intro i out hi ho hw
      rw [List.drop_of_length_le (by omega)]
      exact Ev.step (f := fun _ => some (out.map S)) (fun k => by rw [spec_SortVersions.l0, if_neg (by omega)]) (Ev.now _)
    | succ d ih =>
      intro i out hi ho hw
      have hlt : i < l.length := by omega
      have hm := hs _ (getD_mem l i ByteArray.empty hlt)
      have es : rdOf ByteArray.empty l (i : Int) = l.getD i ByteArray.empty := rfl
      rw [drop_getD l i ByteArray.empty hlt, List.map_cons]
      refine Ev.step (fun k => by rw [spec_SortVersions.l0, if_pos (by omega), if_pos (by omega), es, wa1 i (by omega)]) ?_
      refine Ev.bind (spec_ReadVersion_ev _ hm) ?_
      by_cases h : isVer (L (l.getD i ByteArray.empty)) = true
      · rw [List.filter_cons_of_pos h, List.foldl_cons]
        refine ev_pos h ?_
        have go := ih (i + 1) (ins cmpS (L (l.getD i ByteArray.empty)) out) (by omega) (by have := ins_len (L (l.getD i ByteArray.empty)) out; omega) (fun w hx => by
          rcases (mem_ins _ _ _).1 hx with rfl | hx
          · have := size_L (l.getD i ByteArray.empty); omega
          · exact hw w hx)
        exact sort_ins l hl i hlt out (by omega) hw go out.length 0 (by omega) (fun w hx => by simp at hx)
      · rw [List.filter_cons_of_neg h]
        exact ev_neg h (ih (i + 1) out (by omega) (by omega) hw)
  have := key l.length 0 [] (by omega) (by simp) (fun w hx => by simp at hx)
  rw [List.drop_zero] at this
  exact this
theorem sorted_ver (l : List ByteArray) (hs : ∀ x ∈ l, x.size ≤ 1048576) : ∀ x ∈ (sorted cmpS ((l.map L).filter isVer)).map S, isVer (L x) = true ∧ x.size ≤ 1048576 := by
  intro x hx
  obtain ⟨y, hy, rfl⟩ := List.mem_map.1 hx
  have hm := ((sorted_is cmpS_keyed ((l.map L).filter isVer) (fun a ha b hb h => cmpS_inj (List.mem_filter.1 ha).2 (List.mem_filter.1 hb).2 h)).2 y).1 hy
  obtain ⟨h1, h2⟩ := List.mem_filter.1 hm
  obtain ⟨z, hz, rfl⟩ := List.mem_map.1 h1
  exact ⟨by rw [L_S]; exact h2, by rw [S_L]; exact hs z hz⟩
theorem sorted_len (l : List B) : (sorted cmpS l).length ≤ l.length := by
  have : ∀ (l o : List B), (l.foldl (fun out s => ins cmpS s out) o).length ≤ l.length + o.length := by
    intro l
    induction l with
    | nil => intro o; simp
    | cons s l ih =>
      intro o
      have h1 := ih (ins cmpS s o)
      have h2 := ins_len s o
      rw [List.foldl_cons, List.length_cons]; omega
  exact this l []
theorem sorted_small (l : List ByteArray) (hl : l.length ≤ 1048576) : ((sorted cmpS ((l.map L).filter isVer)).map S).length ≤ 1048577 := by
  have h1 := sorted_len ((l.map L).filter isVer)
  have h2 := List.length_filter_le isVer (l.map L)
  rw [List.length_map] at h2 ⊢; omega
def bOk (b : S86) : Bool := verOr (L b.f0) && verOr (L b.f1)
def rangeOk (l : List S86) : Bool := l.all bOk && decide (1 ≤ l.length ∧ l.length ≤ 8)
theorem rangeOk_is {l : List S86} (h : rangeOk l = true) : (∀ b ∈ l, (L b.f0).length ≤ 135 ∧ (L b.f1).length ≤ 135) ∧ 1 ≤ l.length ∧ l.length ≤ 8 := by
  unfold rangeOk at h
  simp only [Bool.and_eq_true, List.all_eq_true, decide_eq_true_eq] at h
  refine ⟨fun b hb => ?_, h.2⟩
  have := h.1 b hb
  unfold bOk at this
  rw [Bool.and_eq_true] at this
  exact ⟨verOr_len this.1, verOr_len this.2⟩
theorem spec_l03Is_ev (s : ByteArray) (hs : s.size ≤ 1048576) : Ev (fun k => spec_l03Is.f k s) (verOr (L s)) := by
  unfold spec_l03Is.f verOr isVer
  refine Ev.bind (spec_ReadVersion_ev s hs) ?_
  rw [toList_L]
  by_cases h : (readVer (L s)).2.2.2.2 = true
  · rw [h]; exact ev_pos rfl (Ev.now _)
  · refine ev_use (ev_neg h (Ev.now _)) ?_
    simp only [Bool.not_eq_true] at h; rw [h]; rfl
theorem impl_isVersion_ev (s : ByteArray) (hs : s.size ≤ 1048576) : Ev (fun k => impl_isVersion.f k s) (isVer (L s)) := by
  unfold impl_isVersion.f isVer
  exact Ev.bind (impl_ReadVersion_ev s hs) (Ev.now _)
theorem spec_RangeOk_ev (l : List S86) (hl : l.length ≤ 1048576) (hs : ∀ b ∈ l, b.f0.size ≤ 1048576 ∧ b.f1.size ≤ 1048576) : Ev (fun k => spec_RangeOk.f k l) (rangeOk l) := by
  refine all_loop l z86 bOk _ (fun k i => spec_RangeOk.l0 k l i) ?_ ?_
  · refine Ev.step (f := fun k => some (decide (1 ≤ l.length ∧ l.length ≤ 8))) (fun k => ?_) (Ev.now _)
    show spec_RangeOk.l0 (k + 1) l _ = _
    rw [spec_RangeOk.l0, if_neg (by omega), spec_l01In_eq, Option.bind_some]
    congr 1
    by_cases h : 1 ≤ l.length ∧ l.length ≤ 8
    · rw [decide_eq_true h, decide_eq_true (by omega)]
    · rw [decide_eq_false h, decide_eq_false (by omega)]
  · intro i r hi hr
    have hm := hs _ (getD_mem l i z86 hi)
    have ee : rd_T86 l (i : Int) = l.getD i z86 := rfl
    refine Ev.step (f := fun k => (spec_l03Is.f k (l.getD i z86).f0).bind fun t => if t = true then ((spec_l03Is.f k (l.getD i z86).f1).bind fun u => if u = true then spec_RangeOk.l0 k l ((i + 1 : Nat) : Int) else some false) else some false) (fun k => ?_) ?_
    · show spec_RangeOk.l0 (k + 1) l _ = _
      rw [spec_RangeOk.l0, if_pos (by omega), if_pos (by omega), ee, wa1 i (by omega)]
    · generalize l.getD i z86 = b at hm ⊢
      unfold bOk
      refine Ev.bind (spec_l03Is_ev b.f0 hm.1) ?_
      by_cases h0 : verOr (L b.f0) = true
      · rw [h0, Bool.true_and]
        refine ev_pos rfl (Ev.bind (spec_l03Is_ev b.f1 hm.2) ?_)
        by_cases h1 : verOr (L b.f1) = true
        · rw [h1, Bool.true_and]; exact ev_pos rfl hr
        · simp only [Bool.not_eq_true] at h1; rw [h1]; exact ev_neg (by simp) (Ev.now _)
      · simp only [Bool.not_eq_true] at h0; rw [h0]; exact ev_neg (by simp) (Ev.now _)
theorem ask_end {s : ByteArray} (hs : s.size ≤ 1048576) {f : Nat → Option Bool} {r : Bool} (hr : Ev f r) : Ev (fun k => if s.toList = ([] : List UInt8) then f k else (impl_isVersion.f k s).bind fun t => if t = true then f k else some false) (verOr (L s) && r) := by
  rw [toList_L]
  unfold verOr
  by_cases h : L s = []
  · have : (L s == ([] : B)) = true := beq_iff_eq.2 h
    rw [this, Bool.or_true, Bool.true_and]; exact ev_pos h hr
  · have : (L s == ([] : B)) = false := beq_eq_false_iff_ne.2 h
    rw [this, Bool.or_false]
    refine ev_neg h (Ev.bind (impl_isVersion_ev s hs) ?_)
    by_cases h1 : isVer (L s) = true
    · rw [h1, Bool.true_and]; exact ev_pos rfl hr
    · simp only [Bool.not_eq_true] at h1; rw [h1]; exact ev_neg (by simp) (Ev.now _)
theorem impl_RangeOk_ev (l : List S86) (hl : l.length ≤ 1048576) (hs : ∀ b ∈ l, b.f0.size ≤ 1048576 ∧ b.f1.size ≤ 1048576) : Ev (fun k => impl_RangeOk.f k l) (rangeOk l) := by
  refine all_loop l z86 bOk _ (fun k i => impl_RangeOk.l0 k l l (l.length : Int) i) ?_ ?_
  · refine Ev.step (f := fun k => some (decide (1 ≤ l.length ∧ l.length ≤ 8))) (fun k => ?_) (Ev.now _)
    show impl_RangeOk.l0 (k + 1) l l _ _ = _
    rw [impl_RangeOk.l0, if_neg (by omega), impl_within_eq, Option.bind_some]
    congr 1
    by_cases h : 1 ≤ l.length ∧ l.length ≤ 8
    · rw [decide_eq_true h, decide_eq_true (by omega)]
    · rw [decide_eq_false h, decide_eq_false (by omega)]
  · intro i r hi hr
    have hm := hs _ (getD_mem l i z86 hi)
    have ee : rd_T86 l (i : Int) = l.getD i z86 := rfl
    refine ev_use (Ev.step (fun k => ?_) (ask_end hm.1 (ask_end hm.2 hr))) (by unfold bOk; rw [Bool.and_assoc])
    show impl_RangeOk.l0 (k + 1) l l _ _ = _
    rw [impl_RangeOk.l0, if_pos (by omega), if_pos (by omega), if_pos (by omega), ee, wa1 i (by omega)]
theorem any_loop {α : Type} (l : List α) (z : α) (p : α → Bool) (g : Nat → Int → Option Bool) (hend : Ev (fun k => g k (l.length : Int)) false)
    (hstep : ∀ (i : Nat) (r : Bool), i < l.length → Ev (fun k => g k ((i + 1 : Nat) : Int)) r → Ev (fun k => g k (i : Int)) (p (l.getD i z) || r)) : Ev (fun k => g k 0) (l.any p) := by
  have key : ∀ d i, i + d = l.length → Ev (fun k => g k (i : Int)) ((l.drop i).any p) := by
    intro d
    induction d with
    | zero =>
      intro i hi
      have e : i = l.length := by omega
      subst e
      rw [List.drop_length]; exact hend
    | succ d ih =>
      intro i hi
      rw [drop_getD l i z (by omega), List.any_cons]
      exact hstep i _ (by omega) (ih (i + 1) (by omega))
  have := key l.length 0 (by omega)
  exact this
def finB (x y : B) : Bool := decide ((readVer x).2.2.2.1 = []) || (decide ((readVer y).2.2.2.1 ≠ []) && (decide ((readVer y).1 = (readVer x).1) && (decide ((readVer y).2.1 = (readVer x).2.1) && decide ((readVer y).2.2.1 = (readVer x).2.2.1))))
def outB (x : B) (b : S86) : Bool := (isVer (L b.f0) && decide (cmpS x (L b.f0) < 0)) || (isVer (L b.f1) && decide (0 ≤ cmpS x (L b.f1)))
def inOne (x : B) (b : S86) : Bool := !outB x b && finB x (L b.f0)
def inL (x : B) (r : List S86) : Bool := (isVer x && rangeOk r) && r.any (inOne x)
theorem fin_eq (a b c a' b' c' : Int) (p q : List ByteArray) : (if (p.length : Int) = 0 then some true else (if (q.length : Int) > 0 then (if a' = a then (if b' = b then some (c' == c) else some false) else some false) else some false)) = some (decide (p = []) || (decide (q ≠ []) && (decide (a' = a) && (decide (b' = b) && decide (c' = c))))) := by
  cases p with
  | nil => rw [if_pos (by simp)]; simp
  | cons x p =>
    rw [if_neg (by rw [List.length_cons]; omega)]
    cases q with
    | nil => rw [if_neg (by simp)]; simp
    | cons y q =>
      rw [if_pos (by rw [List.length_cons]; omega)]
      by_cases h1 : a' = a
      · rw [if_pos h1]
        by_cases h2 : b' = b
        · rw [if_pos h2]; by_cases h3 : c' = c <;> simp [h1, h2, h3]
        · rw [if_neg h2]; simp [h2]
      · rw [if_neg h1]; simp [h1]
theorem fin_no (p : List ByteArray) : (if (p.length : Int) = 0 then some true else some false) = some (decide (p = [])) := by
  cases p with
  | nil => rw [if_pos (by simp)]; simp
  | cons x p => rw [if_neg (by rw [List.length_cons]; omega)]; simp
theorem no_pre {y : B} (h : ¬ isVer y = true) : (readVer y).2.2.2.1 = [] := by
  unfold isVer at h
  unfold readVer at h ⊢
  split at h
  · exact absurd rfl h
  · rename_i hc; rw [if_neg hc]; rfl
theorem finB_no {x y : B} (h : ¬ isVer y = true) : finB x y = decide ((readVer x).2.2.2.1 = []) := by
  unfold finB; rw [no_pre h]; simp
theorem spec_takes_hi (x hi : B) {f : Nat → Option Bool} {q : Bool} (hf : Ev f q) : Ev (fun k => if (readVer hi).2.2.2.2 = true then ((spec_CompareVersion.f k (readVer x).1 (readVer x).2.1 (readVer x).2.2.1 (readVer x).2.2.2.1 (readVer hi).1 (readVer hi).2.1 (readVer hi).2.2.1 (readVer hi).2.2.2.1).bind fun t => if t ≥ 0 then some false else f k) else f k) (!(isVer hi && decide (0 ≤ cmpS x hi)) && q) := by
  by_cases h : isVer hi = true
  · rw [h, Bool.true_and]
    refine ev_pos h (Ev.bind (spec_compare_ev x hi) ?_)
    by_cases h2 : 0 ≤ cmpS x hi
    · rw [decide_eq_true h2]; exact ev_pos h2 (Ev.now _)
    · rw [decide_eq_false h2]; exact ev_neg h2 hf
  · have h' : isVer hi = false := by simpa using h
    rw [h']; exact ev_neg h hf
theorem spec_l03Takes_ev (x : B) (b0 b1 : ByteArray) (h0 : b0.size ≤ 1048576) (h1 : b1.size ≤ 1048576) : Ev (fun k => spec_l03Takes.f k b0 b1 (readVer x).1 (readVer x).2.1 (readVer x).2.2.1 (readVer x).2.2.2.1) (inOne x ⟨b0, b1⟩) := by
  unfold spec_l03Takes.f inOne outB
  refine Ev.bind (spec_ReadVersion_ev b0 h0) (Ev.bind (spec_ReadVersion_ev b1 h1) ?_)
  show Ev _ (!((isVer (L b0) && decide (cmpS x (L b0) < 0)) || (isVer (L b1) && decide (0 ≤ cmpS x (L b1)))) && finB x (L b0))
  rw [fin_eq, fin_no, Bool.not_or, Bool.and_assoc]
  by_cases h : isVer (L b0) = true
  · rw [h, Bool.true_and]
    refine ev_pos h (Ev.bind (spec_compare_ev x (L b0)) ?_)
    by_cases h2 : cmpS x (L b0) < 0
    · rw [decide_eq_true h2]; exact ev_pos h2 (Ev.now _)
    · rw [decide_eq_false h2]
      exact ev_neg h2 (spec_takes_hi x (L b1) (Ev.now _))
  · have h' : isVer (L b0) = false := by simpa using h
    rw [h', finB_no h]
    exact ev_neg h (spec_takes_hi x (L b1) (Ev.now _))
theorem spec_In_ev (s : ByteArray) (l : List S86) (hsz : s.size ≤ 1048576) (hl : l.length ≤ 1048576) (hs : ∀ b ∈ l, b.f0.size ≤ 1048576 ∧ b.f1.size ≤ 1048576) : Ev (fun k => spec_In.f k s l) (inL (L s) l) := by
  unfold spec_In.f
  refine Ev.bind (spec_ReadVersion_ev s hsz) ?_
  have go : Ev (fun k => spec_In.l0 k l (isVer (L s)) 0 (readVer (L s)).1 (readVer (L s)).2.1 (readVer (L s)).2.2.1 (readVer (L s)).2.2.2.1) (l.any fun b => (isVer (L s) && rangeOk l) && inOne (L s) b) := by
    refine any_loop l z86 _ (fun k i => spec_In.l0 k l (isVer (L s)) i (readVer (L s)).1 (readVer (L s)).2.1 (readVer (L s)).2.2.1 (readVer (L s)).2.2.2.1) ?_ ?_
    · exact Ev.step (f := fun _ => some false) (fun k => by show spec_In.l0 (k + 1) l _ _ _ _ _ _ = _; rw [spec_In.l0, if_neg (by omega)]) (Ev.now _)
    · intro i r hi hr
      have hm := hs _ (getD_mem l i z86 hi)
      have ee : rd_T86 l (i : Int) = l.getD i z86 := rfl
      refine Ev.step (f := fun k => if isVer (L s) = true then ((spec_RangeOk.f k l).bind fun t => if t = true then ((spec_l03Takes.f k (l.getD i z86).f0 (l.getD i z86).f1 (readVer (L s)).1 (readVer (L s)).2.1 (readVer (L s)).2.2.1 (readVer (L s)).2.2.2.1).bind fun u => if u = true then some true else spec_In.l0 k l (isVer (L s)) ((i + 1 : Nat) : Int) (readVer (L s)).1 (readVer (L s)).2.1 (readVer (L s)).2.2.1 (readVer (L s)).2.2.2.1) else spec_In.l0 k l (isVer (L s)) ((i + 1 : Nat) : Int) (readVer (L s)).1 (readVer (L s)).2.1 (readVer (L s)).2.2.1 (readVer (L s)).2.2.2.1) else spec_In.l0 k l (isVer (L s)) ((i + 1 : Nat) : Int) (readVer (L s)).1 (readVer (L s)).2.1 (readVer (L s)).2.2.1 (readVer (L s)).2.2.2.1) (fun k => ?_) ?_
      · show spec_In.l0 (k + 1) l _ _ _ _ _ _ = _
        rw [spec_In.l0, if_pos (by omega), if_pos (show (0 : Int) ≤ (i : Int) by omega), ee, wa1 i (by omega)]
      · generalize l.getD i z86 = b at hm ⊢
        by_cases h1 : isVer (L s) = true
        · rw [h1] at hr ⊢
          rw [Bool.true_and]
          refine ev_pos rfl (Ev.bind (spec_RangeOk_ev l hl hs) ?_)
          by_cases h2 : rangeOk l = true
          · rw [h2, Bool.true_and]
            refine ev_pos rfl (Ev.bind (spec_l03Takes_ev (L s) b.f0 b.f1 hm.1 hm.2) ?_)
            show Ev _ (inOne (L s) ⟨b.f0, b.f1⟩ || r)
            by_cases h3 : inOne (L s) ⟨b.f0, b.f1⟩ = true
            · rw [h3, Bool.true_or]; exact ev_pos rfl (Ev.now _)
            · have h3' : inOne (L s) ⟨b.f0, b.f1⟩ = false := by simpa using h3
              rw [h3', Bool.false_or]; exact ev_neg (by simp) hr
          · have h2' : rangeOk l = false := by simpa using h2
            rw [h2', Bool.false_and, Bool.false_or]; exact ev_neg (by simp) hr
        · have h1' : isVer (L s) = false := by simpa using h1
          rw [h1'] at hr ⊢
          rw [Bool.false_and, Bool.false_and, Bool.false_or]; exact ev_neg (by simp) hr
  refine ev_use go ?_
  unfold inL
  cases isVer (L s) && rangeOk l with
  | true => simp
  | false => simp
theorem impl_In_j2 (s : ByteArray) (l : List S86) (n i : Int) (flag : Bool) (b0 b1 : ByteArray) (h0 : b0.size ≤ 1048576) {r : Bool} (hr : Ev (fun k => impl_In.l0 k s l n (wrap64 (i + 1)) (readVer (L s)).1 (readVer (L s)).2.1 (readVer (L s)).2.2.1 (readVer (L s)).2.2.2.1) r) :
    Ev (fun k => impl_In.j2 k s l n i flag (readVer (L s)).1 (readVer (L s)).2.1 (readVer (L s)).2.2.1 (readVer (L s)).2.2.2.1 b0 b1) ((!flag && finB (L s) (L b0)) || r) := by
  cases flag with
  | true =>
    refine ev_use (Ev.step (fun k => ?_) hr) (by simp)
    rw [impl_In.j2, if_pos rfl]
  | false =>
    refine Ev.step (fun k => by rw [impl_In.j2, if_neg (by decide)]) (Ev.bind (impl_ReadVersion_ev b0 h0) ?_)
    rw [Bool.not_false, Bool.true_and]
    unfold finB
    generalize readVer (L b0) = v
    generalize (readVer (L s)).2.2.2.1 = p at hr ⊢
    cases p with
    | nil => exact ev_pos (by simp) (ev_use (Ev.now _) (by simp))
    | cons x p =>
      refine ev_neg (by rw [List.length_cons]; omega) ?_
      rw [decide_eq_false (show ¬ x :: p = [] by simp), Bool.false_or]
      by_cases h1 : v.2.2.2.1 = []
      · rw [h1]; exact ev_neg (by simp) (ev_use hr (by simp))
      · have hp : 0 < v.2.2.2.1.length := List.length_pos_iff.2 h1
        refine ev_pos (by omega) ?_
        rw [decide_eq_true h1, Bool.true_and]
        by_cases h2 : v.1 = (readVer (L s)).1
        · refine ev_pos h2 ?_
          rw [decide_eq_true h2, Bool.true_and]
          by_cases h3 : v.2.1 = (readVer (L s)).2.1
          · refine ev_pos h3 ?_
            rw [decide_eq_true h3, Bool.true_and]
            by_cases h4 : v.2.2.1 = (readVer (L s)).2.2.1
            · rw [decide_eq_true h4, Bool.true_or]; exact ev_pos h4 (Ev.now _)
            · rw [decide_eq_false h4, Bool.false_or]; exact ev_neg h4 hr
          · rw [decide_eq_false h3, Bool.false_and, Bool.false_or]; exact ev_neg h3 hr
        · rw [decide_eq_false h2, Bool.false_and, Bool.false_or]; exact ev_neg h2 hr
theorem verOr_nil {l : B} (h : l = []) : isVer l = false := by rw [h]; exact isVer_nil
theorem verOr_ne {l : B} (h : verOr l = true) (hne : ¬ l = []) : isVer l = true := by
  unfold verOr at h
  rw [Bool.or_eq_true] at h
  rcases h with h | h
  · exact h
  · exact absurd (beq_iff_eq.1 h) hne
theorem ask_high (s b1 : ByteArray) (hs : s.size ≤ 1048576) (h1 : b1.size ≤ 1048576) (hv : verOr (L b1) = true) {F : Nat → Bool → Option Bool} {a : Bool → Bool} (hF : ∀ f, Ev (fun k => F k f) (a f)) :
    Ev (fun k => if b1.toList = ([] : List UInt8) then F k false else ((impl_compareTexts.f k s b1).bind fun t => F k (decide (t ≥ 0)))) (a (isVer (L b1) && decide (0 ≤ cmpS (L s) (L b1)))) := by
  rw [toList_L]
  by_cases h : L b1 = []
  · rw [verOr_nil h, Bool.false_and]; exact ev_pos h (hF false)
  · rw [verOr_ne hv h, Bool.true_and]
    exact ev_neg h (Ev.bind (impl_compareTexts_ev s b1 hs h1) (hF _))
theorem impl_In_ev (s : ByteArray) (l : List S86) (hsz : s.size ≤ 1048576) (hl : l.length ≤ 1048576) (hs : ∀ b ∈ l, b.f0.size ≤ 1048576 ∧ b.f1.size ≤ 1048576) : Ev (fun k => impl_In.f k s l) (inL (L s) l) := by
  unfold impl_In.f
  refine Ev.bind (impl_ReadVersion_ev s hsz) ?_
  have stop : Ev (fun k => impl_In.j0 k s l true (readVer (L s)).1 (readVer (L s)).2.1 (readVer (L s)).2.2.1 (readVer (L s)).2.2.2.1) false :=
    Ev.step (f := fun _ => some false) (fun k => by rw [impl_In.j0, if_pos rfl]) (Ev.now _)
  unfold inL
  by_cases h1 : isVer (L s) = true
  · refine ev_pos h1 (Ev.bind (impl_RangeOk_ev l hl hs) ?_)
    rw [h1, Bool.true_and]
    by_cases h2 : rangeOk l = true
    · rw [h2, Bool.true_and]
      have hb : ∀ b ∈ l, bOk b = true := by
        unfold rangeOk at h2
        simp only [Bool.and_eq_true, List.all_eq_true, decide_eq_true_eq] at h2
        exact h2.1
      refine Ev.step (f := fun k => impl_In.l0 k s l (l.length : Int) 0 (readVer (L s)).1 (readVer (L s)).2.1 (readVer (L s)).2.2.1 (readVer (L s)).2.2.2.1) (fun k => by rw [impl_In.j0, if_neg (by decide)]) ?_
      refine any_loop l z86 _ (fun k i => impl_In.l0 k s l (l.length : Int) i (readVer (L s)).1 (readVer (L s)).2.1 (readVer (L s)).2.2.1 (readVer (L s)).2.2.2.1) ?_ ?_
      · exact Ev.step (f := fun _ => some false) (fun k => by show impl_In.l0 (k + 1) s l _ _ _ _ _ _ = _; rw [impl_In.l0, if_neg (by omega)]) (Ev.now _)
      · intro i r hi hr
        have hmem := getD_mem l i z86 hi
        have hm := hs _ hmem
        have hk := hb _ hmem
        have ee : rd_T86 l (i : Int) = l.getD i z86 := rfl
        rw [← wa1 i (by omega)] at hr
        unfold bOk at hk
        rw [Bool.and_eq_true] at hk
        generalize hbb : l.getD i z86 = b at hm hk
        have j2 := fun f => impl_In_j2 s l (l.length : Int) (i : Int) f b.f0 b.f1 hm.1 hr
        refine ev_use (Ev.step (f := fun k => if b.f0.toList = ([] : List UInt8) then (if b.f1.toList = ([] : List UInt8) then impl_In.j2 k s l (l.length : Int) (i : Int) false (readVer (L s)).1 (readVer (L s)).2.1 (readVer (L s)).2.2.1 (readVer (L s)).2.2.2.1 b.f0 b.f1 else ((impl_compareTexts.f k s b.f1).bind fun t => impl_In.j2 k s l (l.length : Int) (i : Int) (decide (t ≥ 0)) (readVer (L s)).1 (readVer (L s)).2.1 (readVer (L s)).2.2.1 (readVer (L s)).2.2.2.1 b.f0 b.f1)) else ((impl_compareTexts.f k s b.f0).bind fun t => if t < 0 then impl_In.j2 k s l (l.length : Int) (i : Int) true (readVer (L s)).1 (readVer (L s)).2.1 (readVer (L s)).2.2.1 (readVer (L s)).2.2.2.1 b.f0 b.f1 else (if b.f1.toList = ([] : List UInt8) then impl_In.j2 k s l (l.length : Int) (i : Int) false (readVer (L s)).1 (readVer (L s)).2.1 (readVer (L s)).2.2.1 (readVer (L s)).2.2.2.1 b.f0 b.f1 else ((impl_compareTexts.f k s b.f1).bind fun t => impl_In.j2 k s l (l.length : Int) (i : Int) (decide (t ≥ 0)) (readVer (L s)).1 (readVer (L s)).2.1 (readVer (L s)).2.2.1 (readVer (L s)).2.2.2.1 b.f0 b.f1)))) (r := (!outB (L s) b && finB (L s) (L b.f0)) || r) (fun k => ?_) ?_) rfl
        · show impl_In.l0 (k + 1) s l _ _ _ _ _ _ = _
          rw [impl_In.l0, if_pos (by omega), if_pos (by omega), if_pos (by omega), ee, hbb]
        · have high := ask_high s b.f1 hsz hm.2 hk.2 (a := fun f => (!f && finB (L s) (L b.f0)) || r) j2
          rw [toList_L]
          unfold outB
          by_cases c : L b.f0 = []
          · rw [verOr_nil c, Bool.false_and, Bool.false_or]; exact ev_pos c high
          · rw [verOr_ne hk.1 c, Bool.true_and]
            refine ev_neg c (Ev.bind (impl_compareTexts_ev s b.f0 hsz hm.1) ?_)
            by_cases h3 : cmpS (L s) (L b.f0) < 0
            · rw [decide_eq_true h3, Bool.true_or]; exact ev_pos h3 (j2 true)
            · rw [decide_eq_false h3, Bool.false_or]; exact ev_neg h3 high
    · have h2' : rangeOk l = false := by simpa using h2
      rw [h2']; exact stop
  · have h1' : isVer (L s) = false := by simpa using h1
    rw [h1']; exact ev_neg h1 stop
def hstep (r : List S86) (s : List ByteArray × List ByteArray × Bool) (x : ByteArray) : List ByteArray × List ByteArray × Bool :=
  if inL (L x) r = true then (s.1 ++ s.2.1, [], true) else if s.2.2 = true then (s.1, s.2.1 ++ [x], s.2.2) else s
def holesL (r : List S86) (l : List ByteArray) : List ByteArray := (l.foldl (hstep r) ([], [], false)).1
theorem hstep_in {r : List S86} {x : ByteArray} (h : inL (L x) r = true) (s : List ByteArray × List ByteArray × Bool) : hstep r s x = (s.1 ++ s.2.1, [], true) := by unfold hstep; rw [if_pos h]
theorem hstep_any {r : List S86} {x : ByteArray} (h : ¬ inL (L x) r = true) (o w : List ByteArray) : hstep r (o, w, true) x = (o, w ++ [x], true) := by unfold hstep; rw [if_neg h]; rfl
theorem hstep_no {r : List S86} {x : ByteArray} (h : ¬ inL (L x) r = true) (o w : List ByteArray) : hstep r (o, w, false) x = (o, w, false) := by unfold hstep; rw [if_neg h]; rfl
theorem impl_holes_loop (r : List S86) (hr : r.length ≤ 1048576) (hrs : ∀ b ∈ r, b.f0.size ≤ 1048576 ∧ b.f1.size ≤ 1048576) (l : List ByteArray) (hl : l.length ≤ 1048577) (hs : ∀ x ∈ l, x.size ≤ 1048576) : ∀ d i (o w : List ByteArray) (b : Bool), i + d = l.length → o.length + w.length ≤ i →
    Ev (fun k => impl_Holes.l0 k r o w b l (l.length : Int) (i : Int)) ((l.drop i).foldl (hstep r) (o, w, b)).1 := by
  intro d
  induction d with
  | zero =>
    intro i o w b hi _
    rw [List.drop_of_length_le (by omega)]
    exact Ev.step (f := fun _ => some o) (fun k => by rw [impl_Holes.l0, if_neg (show ¬ (i : Int) < (l.length : Int) by omega)]) (Ev.now _)
  | succ d ih =>
    intro i o w b hi how
    have hlt : i < l.length := by omega
    have hm := hs _ (getD_mem l i ByteArray.empty hlt)
    have es : rdOf ByteArray.empty l (i : Int) = l.getD i ByteArray.empty := rfl
    rw [drop_getD l i ByteArray.empty hlt, List.foldl_cons]
    refine Ev.step (fun k => by rw [impl_Holes.l0, if_pos (show (i : Int) < (l.length : Int) by omega), if_pos (show (0 : Int) ≤ (i : Int) by omega), if_pos (show (i : Int) < (l.length : Int) by omega), es, wa1 i (by omega)]) ?_
    refine Ev.bind (impl_In_ev (l.getD i ByteArray.empty) r hm hr hrs) ?_
    by_cases h : inL (L (l.getD i ByteArray.empty)) r = true
    · rw [hstep_in h]
      refine ev_pos h (ev_pos (by omega) ?_)
      exact ih (i + 1) _ _ _ (by omega) (by rw [List.length_append]; simpa using Nat.le_succ_of_le how)
    · refine ev_neg h ?_
      cases b with
      | true =>
        rw [hstep_any h]
        refine ev_pos rfl (ev_pos (by omega) ?_)
        exact ih (i + 1) _ _ _ (by omega) (by rw [List.length_append, List.length_singleton]; omega)
      | false =>
        rw [hstep_no h]
        exact ev_neg (by decide) (ih (i + 1) _ _ _ (by omega) (by omega))
def notIn (r : List S86) (x : ByteArray) : Bool := !inL (L x) r
theorem spec_holes_l1 (r : List S86) (hr : r.length ≤ 1048576) (hrs : ∀ b ∈ r, b.f0.size ≤ 1048576 ∧ b.f1.size ≤ 1048576) (l : List ByteArray) (hl : l.length ≤ 1048577) (hs : ∀ x ∈ l, x.size ≤ 1048576) : ∀ (m p q acc : List ByteArray), l = p ++ m ++ q → acc.length ≤ p.length →
    Ev (fun k => spec_Holes.l1 k r l ((p.length + m.length : Nat) : Int) acc (p.length : Int)) (acc ++ m.filter (notIn r)) := by
  intro m
  induction m with
  | nil =>
    intro p q acc e _
    rw [List.filter_nil, List.append_nil]
    exact Ev.step (f := fun _ => some acc) (fun k => by rw [spec_Holes.l1, if_neg (by rw [List.length_nil]; omega)]) (Ev.now _)
  | cons x m ih =>
    intro p q acc e ha
    have hle : p.length + (m.length + 1) ≤ l.length := by rw [e, List.length_append, List.length_append, List.length_cons]; omega
    have hx : l.getD p.length ByteArray.empty = x := by rw [e, List.append_assoc, List.getD_eq_getElem?_getD, List.getElem?_append_right (Nat.le_refl _), Nat.sub_self]; rfl
    have es : rdOf ByteArray.empty l (p.length : Int) = x := hx
    have hm : x.size ≤ 1048576 := hs _ (by rw [e]; simp)
    have ih' := fun acc' h => ih (p ++ [x]) q acc' (by rw [e]; simp) h
    rw [List.length_append, List.length_singleton, show p.length + 1 + m.length = p.length + (x :: m).length by rw [List.length_cons]; omega] at ih'
    refine Ev.step (fun k => by rw [spec_Holes.l1, if_pos (show (p.length : Int) < ((p.length + (x :: m).length : Nat) : Int) by rw [List.length_cons]; omega), if_pos (show (0 : Int) ≤ (p.length : Int) by omega), if_pos (show (p.length : Int) < (l.length : Int) by omega), es, wa1 p.length (by omega)]) ?_
    refine Ev.bind (spec_In_ev x r hm hr hrs) ?_
    by_cases h : inL (L x) r = true
    · have ef : (x :: m).filter (notIn r) = m.filter (notIn r) := by rw [List.filter_cons_of_neg]; unfold notIn; rw [h]; decide
      rw [ef]
      exact ev_pos h (ih' acc (by omega))
    · have ef : (x :: m).filter (notIn r) = x :: m.filter (notIn r) := by rw [List.filter_cons_of_pos]; unfold notIn; simpa using h
      rw [ef]
      refine ev_neg h (ev_pos (by omega) ?_)
      have := ih' (acc ++ [x]) (by rw [List.length_append, List.length_singleton]; omega)
      rw [List.append_assoc] at this
      exact this
def HInv (r : List S86) (l : List ByteArray) (i : Nat) (s : List ByteArray × List ByteArray × Bool) (f t : Int) : Prop :=
  (s = ([], [], false) ∧ f = (l.length : Int) ∧ t = -1) ∨
  ∃ (p m q : List ByteArray) (y : ByteArray), l.take i = p ++ m ++ y :: q ∧ f = (p.length : Int) ∧ t = ((p.length + m.length : Nat) : Int) ∧ inL (L y) r = true ∧ q.filter (notIn r) = q ∧ s = (m.filter (notIn r), q, true)
theorem spec_holes_loop (r : List S86) (hr : r.length ≤ 1048576) (hrs : ∀ b ∈ r, b.f0.size ≤ 1048576 ∧ b.f1.size ≤ 1048576) (l : List ByteArray) (hl : l.length ≤ 1048577) (hs : ∀ x ∈ l, x.size ≤ 1048576) : ∀ d i (s : List ByteArray × List ByteArray × Bool) (f t : Int), i + d = l.length → HInv r l i s f t →
    Ev (fun k => spec_Holes.l0 k r l f t (i : Int)) ((l.drop i).foldl (hstep r) s).1 := by
  intro d
  induction d with
  | zero =>
    intro i s f t hi hv
    rw [List.drop_of_length_le (by omega), List.foldl_nil]
    refine Ev.step (fun k => by rw [spec_Holes.l0, if_neg (show ¬ (i : Int) < (l.length : Int) by omega)]) ?_
    rcases hv with ⟨rfl, rfl, rfl⟩ | ⟨p, m, q, y, e, rfl, rfl, _, _, rfl⟩
    · exact Ev.step (f := fun _ => some ([] : List ByteArray)) (fun k => by rw [spec_Holes.l1, if_neg (by omega)]) (Ev.now _)
    · rw [List.take_of_length_le (by omega)] at e
      have := spec_holes_l1 r hr hrs l hl hs m p (y :: q) [] e (Nat.zero_le _)
      rw [List.nil_append] at this
      exact this
  | succ d ih =>
    intro i s f t hi hv
    have hlt : i < l.length := by omega
    have hm := hs _ (getD_mem l i ByteArray.empty hlt)
    have es : rdOf ByteArray.empty l (i : Int) = l.getD i ByteArray.empty := rfl
    have et : l.take (i + 1) = l.take i ++ [l.getD i ByteArray.empty] := by
      rw [List.take_succ_eq_append_getElem hlt, List.getD_eq_getElem?_getD, List.getElem?_eq_getElem hlt]; rfl
    have hti : (l.take i).length = i := by rw [List.length_take]; omega
    rw [drop_getD l i ByteArray.empty hlt, List.foldl_cons]
    refine Ev.step (fun k => by rw [spec_Holes.l0, if_pos (show (i : Int) < (l.length : Int) by omega), if_pos (show (0 : Int) ≤ (i : Int) by omega), es, wa1 i (by omega)]) ?_
    refine Ev.bind (spec_In_ev (l.getD i ByteArray.empty) r hm hr hrs) ?_
    generalize l.getD i ByteArray.empty = x at et ⊢
    by_cases h : inL (L x) r = true
    · rw [hstep_in h]
      refine ev_pos h ?_
      rcases hv with ⟨rfl, rfl, rfl⟩ | ⟨p, m, q, y, e, rfl, rfl, hy, hq, rfl⟩
      · refine ev_pos (by omega) (ih (i + 1) _ _ _ (by omega) (.inr ⟨l.take i, [], [], x, by rw [et, List.append_nil], by rw [hti], by rw [hti]; rfl, h, rfl, rfl⟩))
      · have hlen := congrArg List.length e
        rw [hti, List.length_append, List.length_append, List.length_cons] at hlen
        refine ev_neg (by omega) (ih (i + 1) _ _ _ (by omega) (.inr ⟨p, m ++ y :: q, [], x, by rw [et, e]; simp, rfl, ?_, h, rfl, ?_⟩))
        · rw [List.length_append, List.length_cons]; omega
        · have ef : (y :: q).filter (notIn r) = q := by rw [List.filter_cons_of_neg, hq]; unfold notIn; rw [hy]; decide
          rw [List.filter_append, ef]
    · refine ev_neg h ?_
      rcases hv with ⟨rfl, rfl, rfl⟩ | ⟨p, m, q, y, e, rfl, rfl, hy, hq, rfl⟩
      · rw [hstep_no h]
        exact ih (i + 1) _ _ _ (by omega) (.inl ⟨rfl, rfl, rfl⟩)
      · rw [hstep_any h]
        refine ih (i + 1) _ _ _ (by omega) (.inr ⟨p, m, q ++ [x], y, by rw [et, e]; simp, rfl, rfl, hy, ?_, rfl⟩)
        rw [List.filter_append, hq, List.filter_cons_of_pos (by unfold notIn; simpa using h), List.filter_nil]
theorem spec_Holes_ev (l : List ByteArray) (hl : l.length ≤ 1048576) (hs : ∀ x ∈ l, x.size ≤ 1048576) (r : List S86) (hr : r.length ≤ 1048576) (hrs : ∀ b ∈ r, b.f0.size ≤ 1048576 ∧ b.f1.size ≤ 1048576) : Ev (fun k => spec_Holes.f k l r) (holesL r ((sorted cmpS ((l.map L).filter isVer)).map S)) := by
  unfold spec_Holes.f
  refine Ev.bind (spec_SortVersions_ev l hl hs) ?_
  have := spec_holes_loop r hr hrs _ (sorted_small l hl) (fun x hx => (sorted_ver l hs x hx).2) _ 0 ([], [], false) _ _ (Nat.zero_add _) (.inl ⟨rfl, rfl, rfl⟩)
  rw [List.drop_zero] at this
  exact this
theorem impl_Holes_ev (l : List ByteArray) (hl : l.length ≤ 1048576) (hs : ∀ x ∈ l, x.size ≤ 1048576) (r : List S86) (hr : r.length ≤ 1048576) (hrs : ∀ b ∈ r, b.f0.size ≤ 1048576 ∧ b.f1.size ≤ 1048576) : Ev (fun k => impl_Holes.f k l r) (holesL r ((sorted cmpS ((l.map L).filter isVer)).map S)) := by
  unfold impl_Holes.f
  have hf : impl_SortVersions.f l = some ((sorted cmpS ((l.map L).filter isVer)).map S) := by unfold impl_SortVersions.f; rw [if_pos ⟨hl, hs⟩]
  rw [hf]
  have := impl_holes_loop r hr hrs _ (sorted_small l hl) (fun x hx => (sorted_ver l hs x hx).2) _ 0 [] [] false (Nat.zero_add _) (Nat.le_refl _)
  rw [List.drop_zero] at this
  exact this
theorem holesL_len (r : List S86) : ∀ (l : List ByteArray) (s : List ByteArray × List ByteArray × Bool), (l.foldl (hstep r) s).1.length ≤ s.1.length + s.2.1.length + l.length
  | [], s => by rw [List.foldl_nil, List.length_nil]; omega
  | x :: l, s => by
    rw [List.foldl_cons]
    have := holesL_len r l (hstep r s x)
    have h2 : (hstep r s x).1.length + (hstep r s x).2.1.length ≤ s.1.length + s.2.1.length + 1 := by
      unfold hstep
      split
      · show (s.1 ++ s.2.1).length + 0 ≤ _; rw [List.length_append]; omega
      · split
        · show s.1.length + (s.2.1 ++ [x]).length ≤ _; rw [List.length_append, List.length_singleton]; omega
        · omega
    rw [List.length_cons]; omega
end Go.Proofs.YtcfeihimmboghaaGreatDoor.U

end
section
namespace Go.Proofs.YtcfeihimmboghaaGreatDoor.U
open Go Go.RowKit Go.Proofs.YtcfeihimmboghaaGreatDoorW.PrintWords Go.Proofs.YtcfeihimmboghaaGreatDoor.G
set_option linter.unusedVariables false
theorem markText_l : ∀ (n : Nat) (x0 : Int) (x3 : ByteArray), x0.toNat = n → x0 ≤ 4611686018427387904 → x3.size + n ≤ 4611686018427387908 → ∃ r, Ev (fun k => laws_markText.l0 k x0 x3) r := by
  intro n
  induction n using Nat.strongRecOn with
  | _ n ih =>
    intro x0 x3 hn hx h3
    by_cases h : x0 > 0
    · have hq : Int.tdiv x0 10 = x0 / 10 := Int.tdiv_eq_ediv_of_nonneg (by omega)
      have e : wrap64 (Int.tdiv x0 10) = x0 / 10 := by rw [hq, w64 (by omega) (by omega)]
      have hone : (strOfNums [(wrap64 (48 + Int.tmod x0 10)) % 256]).size = 1 := by unfold strOfNums; rfl
      obtain ⟨r, hr⟩ := ih (x0 / 10).toNat (by omega) (x0 / 10) (strOfNums [(wrap64 (48 + Int.tmod x0 10)) % 256] ++ x3) rfl (by omega) (by rw [ByteArray.size_append, hone]; omega)
      refine ⟨r, Ev.step (fun k => ?_) hr⟩
      rw [laws_markText.l0, if_pos h, Option.bind_some, if_pos (by rw [hone]; omega), e]
    · exact ⟨_, Ev.step (f := fun _ => some ((⟨#[109]⟩ : ByteArray) ++ x3)) (fun k => by rw [laws_markText.l0, if_neg h, if_pos (by omega)]) (Ev.now _)⟩
theorem markText_ex (a : Int) (h : a ≤ 4611686018427387904) : ∃ r, Ev (fun k => laws_markText.f k a) r := by
  unfold laws_markText.f
  by_cases h0 : a ≤ 0
  · exact ⟨_, ev_pos h0 (Ev.now _)⟩
  · obtain ⟨r, hr⟩ := markText_l a.toNat a ⟨#[]⟩ rfl h (by show 0 + _ ≤ _; omega)
    exact ⟨r, ev_neg h0 hr⟩
theorem mark_held {α : Type} (z : α) (g : Nat → List α → Int → Int → Option (Int × List α)) (h : Nat → List α → Int → Int → Option Int) (W : α → Nat)
    (gend : ∀ k x0 c, g (k + 1) x0 c (x0.length : Int) = some (c, x0)) (hend : ∀ k y c, h (k + 1) y c (y.length : Int) = some c)
    (step : ∀ (e : α) (c : Int), 0 ≤ c → c ≤ 2305843009213693952 → ∃ e' c', c ≤ c' ∧ c' ≤ c + W e ∧
      (∀ x0 (i : Nat) r, i < x0.length → i ≤ 140737488355328 → x0.getD i z = e → Ev (fun k => g k (x0.set i e') c' ((i + 1 : Nat) : Int)) r → Ev (fun k => g k x0 c (i : Int)) r) ∧
      (∀ y (i : Nat) r, i < y.length → i ≤ 140737488355328 → y.getD i z = e' → Ev (fun k => h k y c' ((i + 1 : Nat) : Int)) r → Ev (fun k => h k y c (i : Int)) r))
    (l : List α) (c : Int) (hl : l.length ≤ 140737488355328) (hc : 0 ≤ c) (hb : c + ((l.map W).sum : Nat) ≤ 2305843009213693952) :
    ∃ l' r, l'.length = l.length ∧ Ev (fun k => g k l c 0) (r, l') ∧ Ev (fun k => h k l' c 0) r ∧ c ≤ r ∧ r ≤ c + ((l.map W).sum : Nat) := by
  have key : ∀ d i (x0 : List α) (c : Int), i + d = x0.length → x0.length ≤ 140737488355328 → 0 ≤ c → c + (((x0.drop i).map W).sum : Nat) ≤ 2305843009213693952 →
      ∃ l' r, l'.length = x0.length ∧ l'.take i = x0.take i ∧ Ev (fun k => g k x0 c (i : Int)) (r, l') ∧ Ev (fun k => h k l' c (i : Int)) r ∧ c ≤ r ∧ r ≤ c + (((x0.drop i).map W).sum : Nat) := by
    intro d
    induction d with
    | zero =>
      intro i x0 c hi hm hc hb
      have e : i = x0.length := by omega
      subst e
      exact ⟨x0, c, rfl, rfl, Ev.step (f := fun _ => some (c, x0)) (fun k => gend k x0 c) (Ev.now _), Ev.step (f := fun _ => some c) (fun k => hend k x0 c) (Ev.now _), Int.le_refl _, by omega⟩
    | succ d ih =>
      intro i x0 c hi hm hc hb
      have hlt : i < x0.length := by omega
      rw [drop_getD x0 i z hlt, List.map_cons, List.sum_cons] at hb
      obtain ⟨e', c', h1, h2, h3, h4⟩ := step (x0.getD i z) c hc (by omega)
      have hd : (x0.set i e').drop (i + 1) = x0.drop (i + 1) := by rw [List.drop_set_of_lt (by omega)]
      obtain ⟨l', r, k1, k2, k3, k4, k5, k6⟩ := ih (i + 1) (x0.set i e') c' (by simpa using (by omega : i + 1 + d = x0.length)) (by simpa using hm) (by omega) (by rw [hd]; omega)
      rw [List.length_set] at k1
      have hi1 : i ≤ 140737488355328 := by omega
      refine ⟨l', r, k1, ?_, h3 x0 i _ hlt hi1 rfl k3, h4 l' i r (by omega) hi1 ?_ k4, by omega, ?_⟩
      · have := congrArg (List.take i) k2
        rw [List.take_take, List.take_take, Nat.min_eq_left (by omega), List.take_set_of_le (Nat.le_refl _)] at this
        exact this
      · have h5 : l'[i]? = (x0.set i e')[i]? := by
          have := congrArg (fun q : List α => q[i]?) k2
          simpa [List.getElem?_take] using this
        rw [List.getElem?_set_self hlt] at h5
        rw [List.getD_eq_getElem?_getD, h5]; rfl
      · rw [hd] at k6
        rw [drop_getD x0 i z hlt, List.map_cons, List.sum_cons]; omega
  obtain ⟨l', r, k1, _, k3, k4, k5, k6⟩ := key l.length 0 l c (by omega) hl hc (by simpa using hb)
  exact ⟨l', r, k1, k3, k4, k5, by simpa using k6⟩
end Go.Proofs.YtcfeihimmboghaaGreatDoor.U

end
section
namespace Go.Proofs.YtcfeihimmboghaaGreatDoor.U
open Go Go.RowKit Go.Proofs.YtcfeihimmboghaaGreatDoorW.PrintWords Go.Proofs.YtcfeihimmboghaaGreatDoor.G
set_option linter.unusedVariables false
set_option maxRecDepth 100000
theorem eqStringS_ok (l : List ByteArray) (h : l.length ≤ maxLen) : Ev (fun k => laws_eqStringS.f k l l) true := by
  unfold laws_eqStringS.f
  refine ev_pos rfl ?_
  refine eq_loop l ByteArray.empty (fun k i => laws_eqStringS.l0 k l l i) (fun _ x => some true) h ?_ ?_ (fun _ _ => Ev.now _)
  · intro k i hi
    show laws_eqStringS.l0 (k + 1) l l (i : Int) = _
    rw [laws_eqStringS.l0, if_pos (by omega), if_pos (by omega), if_pos (by omega), if_pos rfl]
    rfl
  · intro k
    show laws_eqStringS.l0 (k + 1) l l (l.length : Int) = _
    rw [laws_eqStringS.l0, if_neg (by omega)]
end Go.Proofs.YtcfeihimmboghaaGreatDoor.U

end
section
namespace Go.Proofs.YtcfeihimmboghaaGreatDoor.U
open Go Go.RowKit Go.Proofs.YtcfeihimmboghaaGreatDoorW.PrintWords Go.Proofs.YtcfeihimmboghaaGreatDoor.G
set_option linter.unusedVariables false
theorem sum_ones {α : Type} (l : List α) : (l.map fun _ => 1).sum = l.length := by
  induction l with
  | nil => rfl
  | cons x l ih => rw [List.map_cons, List.sum_cons, ih, List.length_cons]; omega
theorem mhStringS (l : List ByteArray) (c : Int) (hl : l.length ≤ 140737488355328) (hc : 0 ≤ c) (hb : c + l.length ≤ 2305843009213693952) :
    ∃ l' r, l'.length = l.length ∧ Ev (fun k => laws_markStringS.f k l c) (r, l') ∧ Ev (fun k => laws_heldStringS.f k l' c) r ∧ c ≤ r ∧ r ≤ c + l.length := by
  have := mark_held ByteArray.empty (fun k x0 c i => laws_markStringS.l0 k x0 c i) (fun k y c i => laws_heldStringS.l0 k y c i) (fun _ => 1)
    (fun k x0 c => by show laws_markStringS.l0 (k + 1) x0 c _ = _; rw [laws_markStringS.l0, if_neg (by omega)])
    (fun k y c => by show laws_heldStringS.l0 (k + 1) y c _ = _; rw [laws_heldStringS.l0, if_neg (by omega)])
    (fun e c h0 h1 => by
      obtain ⟨m, hm⟩ := markText_ex c (by omega)
      refine ⟨m, c + 1, by omega, by omega, fun x0 i r hi hi1 he hr => ?_, fun y i r hi hi1 he hr => ?_⟩
      · refine Ev.step (f := fun k => (laws_markText.f k c).bind fun t => laws_markStringS.l0 k (x0.set i t) (c + 1) ((i + 1 : Nat) : Int)) (fun k => ?_) (Ev.bind hm hr)
        show laws_markStringS.l0 (k + 1) x0 c (i : Int) = _
        rw [laws_markStringS.l0, if_pos (by omega)]
        refine Option.bind_congr fun t _ => ?_
        rw [if_pos (by omega), Int.toNat_natCast, w64 (n := c + 1) (by omega) (by omega), wa1 i (by omega)]
      · refine Ev.step (f := fun k => (laws_markText.f k c).bind fun t => if m.toList = t.toList then laws_heldStringS.l0 k y (c + 1) ((i + 1 : Nat) : Int) else some (-1)) (fun k => ?_) (Ev.bind hm (ev_pos rfl hr))
        show laws_heldStringS.l0 (k + 1) y c (i : Int) = _
        have he' : rdOf ByteArray.empty y (i : Int) = m := he
        rw [laws_heldStringS.l0, if_pos (by omega), if_pos (by omega)]
        refine Option.bind_congr fun t _ => ?_
        rw [he', w64 (n := c + 1) (by omega) (by omega), wa1 i (by omega)])
    l c hl hc (by rw [sum_ones]; exact hb)
  rw [sum_ones] at this
  exact this
theorem sum_2s {α : Type} (l : List α) : (l.map fun _ => 2).sum = 2 * l.length := by
  induction l with
  | nil => rfl
  | cons x l ih => rw [List.map_cons, List.sum_cons, ih, List.length_cons]; omega
def fh2 {α : Type} : Nat → List α → Int → Int → Option Int
  | 0, _, _, _ => none
  | k + 1, y, c, i => if i < (y.length : Int) then fh2 k y (c + 2) (i + 1) else some c
theorem mBoundS (l : List S86) (c : Int) (hl : l.length ≤ 1048580) (hc : 0 ≤ c) (hc2 : c ≤ 1099511627776) :
    ∃ l' r, Ev (fun k => laws_markBoundS.f k l c) (r, l') ∧ c ≤ r := by
  have := mark_held z86 (fun k x0 c i => laws_markBoundS.l0 k x0 c i) (fun k y c i => fh2 k y c i) (fun _ => 2)
    (fun k x0 c => by show laws_markBoundS.l0 (k + 1) x0 c _ = _; rw [laws_markBoundS.l0, if_neg (by omega)])
    (fun k y c => by show fh2 (k + 1) y c _ = _; rw [fh2, if_neg (by omega)])
    (fun e c h0 h1 => by
      obtain ⟨m, hm⟩ := markText_ex c (by omega)
      obtain ⟨n, hn⟩ := markText_ex (c + 1) (by omega)
      have ew : wrap64 (c + 1) = c + 1 := w64 (by omega) (by omega)
      have ew2 : wrap64 (c + 1 + 1) = c + 2 := by rw [w64 (by omega) (by omega)]; omega
      refine ⟨⟨m, n⟩, c + 2, by omega, by omega, fun x0 i r hi hi1 he hr => ?_, fun y i r hi hi1 he hr => ?_⟩
      · refine Ev.step (f := fun k => (laws_markText.f k c).bind fun t => (laws_markText.f k (c + 1)).bind fun u => laws_markBoundS.l0 k ((x0.set i (⟨t, (x0.getD i z86).f1⟩ : S86)).set i (⟨t, u⟩ : S86)) (c + 2) ((i + 1 : Nat) : Int)) (fun k => ?_) (Ev.bind hm (Ev.bind hn ?_))
        · show laws_markBoundS.l0 (k + 1) x0 c (i : Int) = _
          rw [laws_markBoundS.l0, if_pos (by omega)]
          refine Option.bind_congr fun t _ => ?_
          rw [if_pos (by omega), Option.bind_some, ew]
          refine Option.bind_congr fun u _ => ?_
          have e1 : rd_T86 (x0.set i (⟨t, (x0.getD i z86).f1⟩ : S86)) (i : Int) = ⟨t, (x0.getD i z86).f1⟩ := by
            show (x0.set i _).getD i _ = _
            rw [List.getD_eq_getElem?_getD, List.getElem?_set_self hi]; rfl
          have e2 : rd_T86 x0 (i : Int) = x0.getD i z86 := rfl
          rw [Int.toNat_natCast, e2, e1, ew2, wa1 i (by omega)]
        · have e3 : (x0.set i (⟨m, (x0.getD i z86).f1⟩ : S86)).set i (⟨m, n⟩ : S86) = x0.set i ⟨m, n⟩ := by rw [List.set_set]
          rw [e3]; exact hr
      · exact Ev.step (f := fun k => fh2 k y (c + 2) ((i + 1 : Nat) : Int)) (fun k => by show fh2 (k + 1) y c (i : Int) = _; rw [fh2, if_pos (by omega)]; rfl) hr)
    l c (by omega) hc (by rw [sum_2s]; omega)
  obtain ⟨l', r, _, h2, _, h4, _⟩ := this
  exact ⟨l', r, h2, h4⟩
end Go.Proofs.YtcfeihimmboghaaGreatDoor.U

end
section
namespace Go.Proofs.YtcfeihimmboghaaGreatDoor.U
open Go Go.RowKit Go.Proofs.YtcfeihimmboghaaGreatDoorW.PrintWords Go.Proofs.YtcfeihimmboghaaGreatDoor.G
set_option linter.unusedVariables false
set_option maxRecDepth 100000
theorem szStringS_ok (l : List ByteArray) (h : l.length ≤ maxLen ∧ ∀ x_ ∈ l, x_.size ≤ maxLen) : Sz (fun k left => laws_szStringS.f k l left) (w_StringS l) := by
  have hs : ∀ x ∈ l, Sz (fun _ left => if wrap64 (left - (x.size : Int)) < 0 then some (-1) else some (wrap64 (left - (x.size : Int)))) (x.size : Int) := fun x hx => ⟨by omega, fun left hr => sz_last hr (h.2 x hx)⟩
  refine ⟨w_StringS_nonneg l, fun left hr => ?_⟩
  show Ev (fun k => laws_szStringS.f k l left) _
  unfold laws_szStringS.f w_StringS wList
  rw [room_sub hr h.1]
  refine sz_cut' hr (sumW_nonneg fun x hx => (hs x hx).1) fun hb hr => ?_
  refine sz_loop l ByteArray.empty (fun s => (s.size : Int)) (fun k i st => laws_szStringS.l0 k l st i) (fun _ x left => if wrap64 (left - (x.size : Int)) < 0 then some (-1) else some (wrap64 (left - (x.size : Int)))) h.1 ?_ ?_ hs _ hr
  · intro k i st hi
    show laws_szStringS.l0 (k + 1) l st (i : Int) = _
    rw [laws_szStringS.l0, if_pos (by omega), if_pos (by omega)]
    show (if wrap64 (st - ((l.getD i ByteArray.empty).size : Int)) < 0 then some (-1) else laws_szStringS.l0 k l (wrap64 (st - ((l.getD i ByteArray.empty).size : Int))) (wrap64 ((i : Int) + 1))) = _
    generalize wrap64 (st - ((l.getD i ByteArray.empty).size : Int)) = y
    by_cases hy : y < 0
    · simp only [if_pos hy]; rfl
    · simp only [if_neg hy]; show _ = (if y < 0 then _ else _); rw [if_neg hy]
  · intro k st
    show laws_szStringS.l0 (k + 1) l st (l.length : Int) = _
    rw [laws_szStringS.l0, if_neg (by omega)]
theorem toStringS_ok (l : List ByteArray) (h : l.length ≤ maxLen ∧ ∀ x_ ∈ l, x_.size ≤ maxLen) (hw : w_StringS l ≤ 1048576) : Ev (fun k => laws_toStringS.f k l) (l) := by
  have hl := w_StringS_len l
  have e : ((l.length : Int)).toNat = l.length := Int.toNat_natCast _
  unfold laws_toStringS.f
  rw [e]
  refine ev_pos (by omega) (ev_pos (by omega) ?_)
  have := to_loop l ByteArray.empty (⟨#[]⟩ : ByteArray) id (fun k i st => laws_toStringS.l0 k l st i) h.1 ?_ ?_
  · rw [List.map_id] at this; exact this
  · intro k i st hi hs
    show laws_toStringS.l0 (k + 1) l st (i : Int) = _
    rw [laws_toStringS.l0, if_pos (by omega), if_pos (by omega), if_pos (by omega)]
    rfl
  · intro k st
    show laws_toStringS.l0 (k + 1) l st (l.length : Int) = _
    rw [laws_toStringS.l0, if_neg (by omega)]
theorem eqBound_ok (f0 : ByteArray)  (f1 : ByteArray)  : Ev (fun k => laws_eqBound.f f0 f1 f0 f1) true := by
  unfold laws_eqBound.f
  refine ev_pos rfl ?_
  refine ev_pos rfl ?_
  exact Ev.now _
theorem eqBoundS_ok (l : List S86) (h : l.length ≤ maxLen) : Ev (fun k => laws_eqBoundS.f k l l) true := by
  unfold laws_eqBoundS.f
  refine ev_pos rfl ?_
  refine eq_loop l z86 (fun k i => laws_eqBoundS.l0 k l l i) (fun k x => laws_eqBound.f x.f0 x.f1 x.f0 x.f1) h ?_ ?_ (fun x hx => eqBound_ok x.f0 x.f1)
  · intro k i hi
    show laws_eqBoundS.l0 (k + 1) l l (i : Int) = _
    rw [laws_eqBoundS.l0, if_pos (by omega), if_pos (by omega), if_pos (by omega)]
    rfl
  · intro k
    show laws_eqBoundS.l0 (k + 1) l l (l.length : Int) = _
    rw [laws_eqBoundS.l0, if_neg (by omega)]
def w_Bound (f0 : ByteArray) (f1 : ByteArray) : Int := (f0.size : Int) + ((f1.size : Int) + (0))
theorem w_Bound_nonneg (f0 : ByteArray) (f1 : ByteArray) : 0 ≤ w_Bound f0 f1 := by
  unfold w_Bound
  omega
def w_BoundS (l : List S133) : Int := wList (fun x => w_Bound x.f0 x.f1) l
theorem w_BoundS_nonneg (l : List S133) : 0 ≤ w_BoundS l := wList_nonneg fun x _ => w_Bound_nonneg _ _
theorem w_BoundS_len (l : List S133) : (l.length : Int) ≤ w_BoundS l := wList_len fun x _ => w_Bound_nonneg _ _
theorem w_BoundS_mem {l : List S133} {x : S133} (hx : x ∈ l) : w_Bound x.f0 x.f1 ≤ w_BoundS l := wList_mem (w := fun x : S133 => w_Bound x.f0 x.f1) (fun x _ => w_Bound_nonneg _ _) hx
theorem szBound_ok (f0 : ByteArray) (h0 : f0.size ≤ maxLen) (f1 : ByteArray) (h1 : f1.size ≤ maxLen) : Sz (fun k left => laws_szBound.f f0 f1 left) (w_Bound f0 f1) := by
  refine ⟨w_Bound_nonneg f0 f1, fun left hr => ?_⟩
  show Ev (fun k => laws_szBound.f f0 f1 left) _
  unfold laws_szBound.f w_Bound
  rw [room_sub hr h0]
  refine sz_cut' hr (by omega) fun hb hr => ?_
  rw [room_sub hr h1]
  refine sz_cut' hr (by omega) fun hb hr => ?_
  exact sz_done hr
theorem szBoundS_ok (l : List S133) (h : l.length ≤ maxLen ∧ ∀ x_ ∈ l, (x_.f0.size ≤ maxLen ∧ x_.f1.size ≤ maxLen)) : Sz (fun k left => laws_szBoundS.f k l left) (w_BoundS l) := by
  have hs : ∀ x ∈ l, Sz (fun k left => laws_szBound.f x.f0 x.f1 left) (w_Bound x.f0 x.f1) := fun x hx => by
    have hx' := h.2 x hx
    exact szBound_ok x.f0 hx'.1 x.f1 hx'.2
  refine ⟨w_BoundS_nonneg l, fun left hr => ?_⟩
  show Ev (fun k => laws_szBoundS.f k l left) _
  unfold laws_szBoundS.f w_BoundS wList
  rw [room_sub hr h.1]
  refine sz_cut' hr (sumW_nonneg fun x hx => (hs x hx).1) fun hb hr => ?_
  refine sz_loop l z133 (fun x => w_Bound x.f0 x.f1) (fun k i st => laws_szBoundS.l0 k l st i) (fun k x left => laws_szBound.f x.f0 x.f1 left) h.1 ?_ ?_ hs _ hr
  · intro k i st hi
    show laws_szBoundS.l0 (k + 1) l st (i : Int) = _
    rw [laws_szBoundS.l0, if_pos (by omega), if_pos (by omega)]
    rfl
  · intro k st
    show laws_szBoundS.l0 (k + 1) l st (l.length : Int) = _
    rw [laws_szBoundS.l0, if_neg (by omega)]
theorem toBound_ok (f0 : ByteArray) (h0 : f0.size ≤ maxLen) (f1 : ByteArray) (h1 : f1.size ≤ maxLen) (hw : w_Bound f0 f1 ≤ 1048576) : Ev (fun k => laws_toBound.f f0 f1) (f0, f1) := by
  unfold laws_toBound.f
  exact Ev.now _
def t_Bound (x : S133) : S86 := ⟨x.f0, x.f1⟩
theorem toBoundS_ok (l : List S133) (h : l.length ≤ maxLen ∧ ∀ x_ ∈ l, (x_.f0.size ≤ maxLen ∧ x_.f1.size ≤ maxLen)) (hw : w_BoundS l ≤ 1048576) : Ev (fun k => laws_toBoundS.f k l) (l.map t_Bound) := by
  have hl := w_BoundS_len l
  have e : ((l.length : Int)).toNat = l.length := Int.toNat_natCast _
  unfold laws_toBoundS.f
  rw [e]
  refine ev_pos (by omega) (ev_pos (by omega) ?_)
  refine to_loop l z133 _ t_Bound (fun k i st => laws_toBoundS.l0 k l st i) h.1 ?_ ?_
  · intro k i st hi hs
    show laws_toBoundS.l0 (k + 1) l st (i : Int) = _
    rw [laws_toBoundS.l0, if_pos (by omega), if_pos (by omega)]
    show (if (i : Int) < (st.length : Int) then _ else none) = _
    rw [if_pos (by omega)]
    rfl
  · intro k st
    show laws_toBoundS.l0 (k + 1) l st (l.length : Int) = _
    rw [laws_toBoundS.l0, if_neg (by omega)]
end Go.Proofs.YtcfeihimmboghaaGreatDoor.U

end
