/- A part of the proof that the law FnExactPick answers true at every input that its row speaks of. Conditions: the row's own. -/
import Derived.Test.YtcfeihimmboghaaGreatDoorMFnExactPick2
import Derived.Test.YtcfeihimmboghaaGreatDoorMFnExactPick13
import Derived.Test.YtcfeihimmboghaaGreatDoorKFnExactPick1
import Derived.Test.YtcfeihimmboghaaGreatDoorKFnExactPick2
import Derived.Test.YtcfeihimmboghaaGreatDoorMFnExactPick0
import Derived.Test.YtcfeihimmboghaaGreatDoorKFnExactPick0
import Derived.Test.YtcfeihimmboghaaGreatDoorRows
import Derived.Test.YtcfeihimmboghaaGreatDoorOp
import Derived.Test.YtcfeihimmboghaaGreatDoorCards
import Derived.Test.YtcfeihimmboghaaGreatDoorTie
import Derived.Test.YtcfeihimmboghaaGreatDoorLaid
import Derived.Test.YtcfeihimmboghaaGreatDoorFacts
import Derived.WalkKit
import Derived.ProofKit
import Derived.OpenShut
import Derived.ShutString
import Derived.ChangeOld
import Derived.Below
import Derived.SizedLaws
import Derived.Carry
import Derived.Deep.DeepHandedRow
import Derived.Deep.DeepWitnessRowRef
section
namespace Go.Proofs.YtcfeihimmboghaaGreatDoor.U
open Go Go.RowKit Go.Proofs.YtcfeihimmboghaaGreatDoorW.PrintWords Go.Proofs.YtcfeihimmboghaaGreatDoor.G
set_option linter.unusedVariables false
set_option linter.unusedSimpArgs false
theorem any_loop {α : Type} (l : List α) (z : α) (p : α → Bool) (g : Nat → Int → Option Bool) (hend : Ev (fun k => g k (l.length : Int)) false)
    (hstep : ∀ (i : Nat) (r : Bool), i < l.length → Ev (fun k => g k ((i + 1 : Nat) : Int)) r → Ev (fun k => g k (i : Int)) (p (l.getD i z) || r)) : Ev (fun k => g k 0) (l.any p) := by
  have key : ∀ d i, i + d = l.length → Ev (fun k => g k (i : Int)) ((l.drop i).any p) := by
    intro d
    induction d with
    | zero =>
      intro i hi
      have e : i = l.length := by omega
      subst e
      rw [List.drop_length]; exact hend
    | succ d ih =>
      intro i hi
      rw [drop_getD l i z (by omega), List.any_cons]
      exact hstep i _ (by omega) (ih (i + 1) (by omega))
  have := key l.length 0 (by omega)
  exact this
def finB (x y : B) : Bool := decide ((readVer x).2.2.2.1 = []) || (decide ((readVer y).2.2.2.1 ≠ []) && (decide ((readVer y).1 = (readVer x).1) && (decide ((readVer y).2.1 = (readVer x).2.1) && decide ((readVer y).2.2.1 = (readVer x).2.2.1))))
def outB (x : B) (b : S86) : Bool := (isVer (L b.f0) && decide (cmpS x (L b.f0) < 0)) || (isVer (L b.f1) && decide (0 ≤ cmpS x (L b.f1)))
def inOne (x : B) (b : S86) : Bool := !outB x b && finB x (L b.f0)
def inL (x : B) (r : List S86) : Bool := (isVer x && rangeOk r) && r.any (inOne x)
theorem fin_eq (a b c a' b' c' : Int) (p q : List ByteArray) : (if (p.length : Int) = 0 then some true else (if (q.length : Int) > 0 then (if a' = a then (if b' = b then some (c' == c) else some false) else some false) else some false)) = some (decide (p = []) || (decide (q ≠ []) && (decide (a' = a) && (decide (b' = b) && decide (c' = c))))) := by
  cases p with
  | nil => rw [if_pos (by simp)]; simp
  | cons x p =>
    rw [if_neg (by rw [List.length_cons]; omega)]
    cases q with
    | nil => rw [if_neg (by simp)]; simp
    | cons y q =>
      rw [if_pos (by rw [List.length_cons]; omega)]
      by_cases h1 : a' = a
      · rw [if_pos h1]
        by_cases h2 : b' = b
        · rw [if_pos h2]; by_cases h3 : c' = c <;> simp [h1, h2, h3]
        · rw [if_neg h2]; simp [h2]
      · rw [if_neg h1]; simp [h1]
theorem fin_no (p : List ByteArray) : (if (p.length : Int) = 0 then some true else some false) = some (decide (p = [])) := by
  cases p with
  | nil => rw [if_pos (by simp)]; simp
  | cons x p => rw [if_neg (by rw [List.length_cons]; omega)]; simp
theorem no_pre {y : B} (h : ¬ isVer y = true) : (readVer y).2.2.2.1 = [] := by
  unfold isVer at h
  unfold readVer at h ⊢
  split at h
  · exact absurd rfl h
  · rename_i hc; rw [if_neg hc]; rfl
theorem finB_no {x y : B} (h : ¬ isVer y = true) : finB x y = decide ((readVer x).2.2.2.1 = []) := by
  unfold finB; rw [no_pre h]; simp
theorem spec_takes_hi (x hi : B) {f : Nat → Option Bool} {q : Bool} (hf : Ev f q) : Ev (fun k => if (readVer hi).2.2.2.2 = true then ((spec_CompareVersion.f k (readVer x).1 (readVer x).2.1 (readVer x).2.2.1 (readVer x).2.2.2.1 (readVer hi).1 (readVer hi).2.1 (readVer hi).2.2.1 (readVer hi).2.2.2.1).bind fun t => if t ≥ 0 then some false else f k) else f k) (!(isVer hi && decide (0 ≤ cmpS x hi)) && q) := by
  by_cases h : isVer hi = true
  · rw [h, Bool.true_and]
    refine ev_pos h (Ev.bind (spec_compare_ev x hi) ?_)
    by_cases h2 : 0 ≤ cmpS x hi
    · rw [decide_eq_true h2]; exact ev_pos h2 (Ev.now _)
    · rw [decide_eq_false h2]; exact ev_neg h2 hf
  · have h' : isVer hi = false := by simpa using h
    rw [h']; exact ev_neg h hf
theorem spec_l03Takes_ev (x : B) (b0 b1 : ByteArray) (h0 : b0.size ≤ 1048576) (h1 : b1.size ≤ 1048576) : Ev (fun k => spec_l03Takes.f k b0 b1 (readVer x).1 (readVer x).2.1 (readVer x).2.2.1 (readVer x).2.2.2.1) (inOne x ⟨b0, b1⟩) := by
  unfold spec_l03Takes.f inOne outB
  refine Ev.bind (spec_ReadVersion_ev b0 h0) (Ev.bind (spec_ReadVersion_ev b1 h1) ?_)
  show Ev _ (!((isVer (L b0) && decide (cmpS x (L b0) < 0)) || (isVer (L b1) && decide (0 ≤ cmpS x (L b1)))) && finB x (L b0))
  rw [fin_eq, fin_no, Bool.not_or, Bool.and_assoc]
  by_cases h : isVer (L b0) = true
  · rw [h, Bool.true_and]
    refine ev_pos h (Ev.bind (spec_compare_ev x (L b0)) ?_)
    by_cases h2 : cmpS x (L b0) < 0
    · rw [decide_eq_true h2]; exact ev_pos h2 (Ev.now _)
    · rw [decide_eq_false h2]
      exact ev_neg h2 (spec_takes_hi x (L b1) (Ev.now _))
  · have h' : isVer (L b0) = false := by simpa using h
    rw [h', finB_no h]
    exact ev_neg h (spec_takes_hi x (L b1) (Ev.now _))
theorem spec_In_ev (s : ByteArray) (l : List S86) (hsz : s.size ≤ 1048576) (hl : l.length ≤ 1048576) (hs : ∀ b ∈ l, b.f0.size ≤ 1048576 ∧ b.f1.size ≤ 1048576) : Ev (fun k => spec_In.f k s l) (inL (L s) l) := by
  unfold spec_In.f
  refine Ev.bind (spec_ReadVersion_ev s hsz) ?_
  have go : Ev (fun k => spec_In.l0 k l (isVer (L s)) 0 (readVer (L s)).1 (readVer (L s)).2.1 (readVer (L s)).2.2.1 (readVer (L s)).2.2.2.1) (l.any fun b => (isVer (L s) && rangeOk l) && inOne (L s) b) := by
    refine any_loop l z86 _ (fun k i => spec_In.l0 k l (isVer (L s)) i (readVer (L s)).1 (readVer (L s)).2.1 (readVer (L s)).2.2.1 (readVer (L s)).2.2.2.1) ?_ ?_
    · exact Ev.step (f := fun _ => some false) (fun k => by show spec_In.l0 (k + 1) l _ _ _ _ _ _ = _; rw [spec_In.l0, if_neg (by omega)]) (Ev.now _)
    · intro i r hi hr
      have hm := hs _ (getD_mem l i z86 hi)
      have ee : rd_T86 l (i : Int) = l.getD i z86 := rfl
      refine Ev.step (f := fun k => if isVer (L s) = true then ((spec_RangeOk.f k l).bind fun t => if t = true then ((spec_l03Takes.f k (l.getD i z86).f0 (l.getD i z86).f1 (readVer (L s)).1 (readVer (L s)).2.1 (readVer (L s)).2.2.1 (readVer (L s)).2.2.2.1).bind fun u => if u = true then some true else spec_In.l0 k l (isVer (L s)) ((i + 1 : Nat) : Int) (readVer (L s)).1 (readVer (L s)).2.1 (readVer (L s)).2.2.1 (readVer (L s)).2.2.2.1) else spec_In.l0 k l (isVer (L s)) ((i + 1 : Nat) : Int) (readVer (L s)).1 (readVer (L s)).2.1 (readVer (L s)).2.2.1 (readVer (L s)).2.2.2.1) else spec_In.l0 k l (isVer (L s)) ((i + 1 : Nat) : Int) (readVer (L s)).1 (readVer (L s)).2.1 (readVer (L s)).2.2.1 (readVer (L s)).2.2.2.1) (fun k => ?_) ?_
      · show spec_In.l0 (k + 1) l _ _ _ _ _ _ = _
        rw [spec_In.l0, if_pos (by omega), if_pos (show (0 : Int) ≤ (i : Int) by omega), ee, wa1 i (by omega)]
      · generalize l.getD i z86 = b at hm ⊢
        by_cases h1 : isVer (L s) = true
        · rw [h1] at hr ⊢
          rw [Bool.true_and]
          refine ev_pos rfl (Ev.bind (spec_RangeOk_ev l hl hs) ?_)
          by_cases h2 : rangeOk l = true
          · rw [h2, Bool.true_and]
            refine ev_pos rfl (Ev.bind (spec_l03Takes_ev (L s) b.f0 b.f1 hm.1 hm.2) ?_)
            show Ev _ (inOne (L s) ⟨b.f0, b.f1⟩ || r)
            by_cases h3 : inOne (L s) ⟨b.f0, b.f1⟩ = true
            · rw [h3, Bool.true_or]; exact ev_pos rfl (Ev.now _)
            · have h3' : inOne (L s) ⟨b.f0, b.f1⟩ = false := by simpa using h3
              rw [h3', Bool.false_or]; exact ev_neg (by simp) hr
          · have h2' : rangeOk l = false := by simpa using h2
            rw [h2', Bool.false_and, Bool.false_or]; exact ev_neg (by simp) hr
        · have h1' : isVer (L s) = false := by simpa using h1
          rw [h1'] at hr ⊢
          rw [Bool.false_and, Bool.false_and, Bool.false_or]; exact ev_neg (by simp) hr
  refine ev_use go ?_
  unfold inL
  cases isVer (L s) && rangeOk l with
  | true => simp
  | false => simp
theorem impl_In_j2 (s : ByteArray) (l : List S86) (n i : Int) (flag : Bool) (b0 b1 : ByteArray) (h0 : b0.size ≤ 1048576) {r : Bool} (hr : Ev (fun k => impl_In.l0 k s l n (wrap64 (i + 1)) (readVer (L s)).1 (readVer (L s)).2.1 (readVer (L s)).2.2.1 (readVer (L s)).2.2.2.1) r) :
    Ev (fun k => impl_In.j2 k s l n i flag (readVer (L s)).1 (readVer (L s)).2.1 (readVer (L s)).2.2.1 (readVer (L s)).2.2.2.1 b0 b1) ((!flag && finB (L s) (L b0)) || r) := by
  cases flag with
  | true =>
    refine ev_use (Ev.step (fun k => ?_) hr) (by simp)
    rw [impl_In.j2, if_pos rfl]
  | false =>
    refine Ev.step (fun k => by rw [impl_In.j2, if_neg (by decide)]) (Ev.bind (impl_ReadVersion_ev b0 h0) ?_)
    rw [Bool.not_false, Bool.true_and]
    unfold finB
    generalize readVer (L b0) = v
    generalize (readVer (L s)).2.2.2.1 = p at hr ⊢
    cases p with
    | nil => exact ev_pos (by simp) (ev_use (Ev.now _) (by simp))
    | cons x p =>
      refine ev_neg (by rw [List.length_cons]; omega) ?_
      rw [decide_eq_false (show ¬ x :: p = [] by simp), Bool.false_or]
      by_cases h1 : v.2.2.2.1 = []
      · rw [h1]; exact ev_neg (by simp) (ev_use hr (by simp))
      · have hp : 0 < v.2.2.2.1.length := List.length_pos_iff.2 h1
        refine ev_pos (by omega) ?_
        rw [decide_eq_true h1, Bool.true_and]
        by_cases h2 : v.1 = (readVer (L s)).1
        · refine ev_pos h2 ?_
          rw [decide_eq_true h2, Bool.true_and]
          by_cases h3 : v.2.1 = (readVer (L s)).2.1
          · refine ev_pos h3 ?_
            rw [decide_eq_true h3, Bool.true_and]
            by_cases h4 : v.2.2.1 = (readVer (L s)).2.2.1
            · rw [decide_eq_true h4, Bool.true_or]; exact ev_pos h4 (Ev.now _)
            · rw [decide_eq_false h4, Bool.false_or]; exact ev_neg h4 hr
          · rw [decide_eq_false h3, Bool.false_and, Bool.false_or]; exact ev_neg h3 hr
        · rw [decide_eq_false h2, Bool.false_and, Bool.false_or]; exact ev_neg h2 hr
theorem verOr_nil {l : B} (h : l = []) : isVer l = false := by rw [h]; exact isVer_nil
theorem verOr_ne {l : B} (h : verOr l = true) (hne : ¬ l = []) : isVer l = true := by
  unfold verOr at h
  rw [Bool.or_eq_true] at h
  rcases h with h | h
  · exact h
  · exact absurd (beq_iff_eq.1 h) hne
theorem ask_high (s b1 : ByteArray) (hs : s.size ≤ 1048576) (h1 : b1.size ≤ 1048576) (hv : verOr (L b1) = true) {F : Nat → Bool → Option Bool} {a : Bool → Bool} (hF : ∀ f, Ev (fun k => F k f) (a f)) :
    Ev (fun k => if b1.toList = ([] : List UInt8) then F k false else ((impl_compareTexts.f k s b1).bind fun t => F k (decide (t ≥ 0)))) (a (isVer (L b1) && decide (0 ≤ cmpS (L s) (L b1)))) := by
  rw [toList_L]
  by_cases h : L b1 = []
  · rw [verOr_nil h, Bool.false_and]; exact ev_pos h (hF false)
  · rw [verOr_ne hv h, Bool.true_and]
    exact ev_neg h (Ev.bind (impl_compareTexts_ev s b1 hs h1) (hF _))
theorem impl_In_ev (s : ByteArray) (l : List S86) (hsz : s.size ≤ 1048576) (hl : l.length ≤ 1048576) (hs : ∀ b ∈ l, b.f0.size ≤ 1048576 ∧ b.f1.size ≤ 1048576) : Ev (fun k => impl_In.f k s l) (inL (L s) l) := by
  unfold impl_In.f
  refine Ev.bind (impl_ReadVersion_ev s hsz) ?_
  have stop : Ev (fun k => impl_In.j0 k s l true (readVer (L s)).1 (readVer (L s)).2.1 (readVer (L s)).2.2.1 (readVer (L s)).2.2.2.1) false :=
    Ev.step (f := fun _ => some false) (fun k => by rw [impl_In.j0, if_pos rfl]) (Ev.now _)
  unfold inL
  by_cases h1 : isVer (L s) = true
  · refine ev_pos h1 (Ev.bind (impl_RangeOk_ev l hl hs) ?_)
    rw [h1, Bool.true_and]
    by_cases h2 : rangeOk l = true
    · rw [h2, Bool.true_and]
      have hb : ∀ b ∈ l, bOk b = true := by
        unfold rangeOk at h2
        simp only [Bool.and_eq_true, List.all_eq_true, decide_eq_true_eq] at h2
        exact h2.1
      refine Ev.step (f := fun k => impl_In.l0 k s l (l.length : Int) 0 (readVer (L s)).1 (readVer (L s)).2.1 (readVer (L s)).2.2.1 (readVer (L s)).2.2.2.1) (fun k => by rw [impl_In.j0, if_neg (by decide)]) ?_
      refine any_loop l z86 _ (fun k i => impl_In.l0 k s l (l.length : Int) i (readVer (L s)).1 (readVer (L s)).2.1 (readVer (L s)).2.2.1 (readVer (L s)).2.2.2.1) ?_ ?_
      · exact Ev.step (f := fun _ => some false) (fun k => by show impl_In.l0 (k + 1) s l _ _ _ _ _ _ = _; rw [impl_In.l0, if_neg (by omega)]) (Ev.now _)
      · intro i r hi hr
        have hmem := getD_mem l i z86 hi
        have hm := hs _ hmem
        have hk := hb _ hmem
        have ee : rd_T86 l (i : Int) = l.getD i z86 := rfl
        rw [← wa1 i (by omega)] at hr
        unfold bOk at hk
        rw [Bool.and_eq_true] at hk
        generalize hbb : l.getD i z86 = b at hm hk
        have j2 := fun f => impl_In_j2 s l (l.length : Int) (i : Int) f b.f0 b.f1 hm.1 hr
        refine ev_use (Ev.step (f := fun k => if b.f0.toList = ([] : List UInt8) then (if b.f1.toList = ([] : List UInt8) then impl_In.j2 k s l (l.length : Int) (i : Int) false (readVer (L s)).1 (readVer (L s)).2.1 (readVer (L s)).2.2.1 (readVer (L s)).2.2.2.1 b.f0 b.f1 else ((impl_compareTexts.f k s b.f1).bind fun t => impl_In.j2 k s l (l.length : Int) (i : Int) (decide (t ≥ 0)) (readVer (L s)).1 (readVer (L s)).2.1 (readVer (L s)).2.2.1 (readVer (L s)).2.2.2.1 b.f0 b.f1)) else ((impl_compareTexts.f k s b.f0).bind fun t => if t < 0 then impl_In.j2 k s l (l.length : Int) (i : Int) true (readVer (L s)).1 (readVer (L s)).2.1 (readVer (L s)).2.2.1 (readVer (L s)).2.2.2.1 b.f0 b.f1 else (if b.f1.toList = ([] : List UInt8) then impl_In.j2 k s l (l.length : Int) (i : Int) false (readVer (L s)).1 (readVer (L s)).2.1 (readVer (L s)).2.2.1 (readVer (L s)).2.2.2.1 b.f0 b.f1 else ((impl_compareTexts.f k s b.f1).bind fun t => impl_In.j2 k s l (l.length : Int) (i : Int) (decide (t ≥ 0)) (readVer (L s)).1 (readVer (L s)).2.1 (readVer (L s)).2.2.1 (readVer (L s)).2.2.2.1 b.f0 b.f1)))) (r := (!outB (L s) b && finB (L s) (L b.f0)) || r) (fun k => ?_) ?_) rfl
        · show impl_In.l0 (k + 1) s l _ _ _ _ _ _ = _
          rw [impl_In.l0, if_pos (by omega), if_pos (by omega), if_pos (by omega), ee, hbb]
        · have high := ask_high s b.f1 hsz hm.2 hk.2 (a := fun f => (!f && finB (L s) (L b.f0)) || r) j2
          rw [toList_L]
          unfold outB
          by_cases c : L b.f0 = []
          · rw [verOr_nil c, Bool.false_and, Bool.false_or]; exact ev_pos c high
          · rw [verOr_ne hk.1 c, Bool.true_and]
            refine ev_neg c (Ev.bind (impl_compareTexts_ev s b.f0 hsz hm.1) ?_)
            by_cases h3 : cmpS (L s) (L b.f0) < 0
            · rw [decide_eq_true h3, Bool.true_or]; exact ev_pos h3 (j2 true)
            · rw [decide_eq_false h3, Bool.false_or]; exact ev_neg h3 high
    · have h2' : rangeOk l = false := by simpa using h2
      rw [h2']; exact stop
  · have h1' : isVer (L s) = false := by simpa using h1
    rw [h1']; exact ev_neg h1 stop
def bestIn (r : List S86) (b : ByteArray) (l : List ByteArray) : ByteArray := l.foldl (fun b x => if inL (L x) r = true then x else b) b
theorem bestIn_snoc (r : List S86) (b x : ByteArray) (l : List ByteArray) : bestIn r b (l ++ [x]) = if inL (L x) r = true then x else bestIn r b l := by
  unfold bestIn
  rw [List.foldl_append]; rfl
theorem spec_pick_loop (r : List S86) (hr : r.length ≤ 1048576) (hrs : ∀ b ∈ r, b.f0.size ≤ 1048576 ∧ b.f1.size ≤ 1048576) (l : List ByteArray) (hl : l.length ≤ 1048577) (hs : ∀ x ∈ l, x.size ≤ 1048576) : ∀ d i (b : ByteArray), i + d = l.length →
    Ev (fun k => spec_Pick.l0 k r l b (i : Int)) (bestIn r b (l.drop i)) := by
  intro d
  induction d with
  | zero =>
    intro i b hi
    rw [List.drop_of_length_le (by omega)]
    exact Ev.step (f := fun _ => some b) (fun k => by rw [spec_Pick.l0, if_neg (show ¬ (i : Int) < (l.length : Int) by omega)]) (Ev.now _)
  | succ d ih =>
    intro i b hi
    have hlt : i < l.length := by omega
    have hm := hs _ (getD_mem l i ByteArray.empty hlt)
    have es : rdOf ByteArray.empty l (i : Int) = l.getD i ByteArray.empty := rfl
    rw [drop_getD l i ByteArray.empty hlt]
    refine Ev.step (fun k => by rw [spec_Pick.l0, if_pos (show (i : Int) < (l.length : Int) by omega), if_pos (show (0 : Int) ≤ (i : Int) by omega), es, wa1 i (by omega)]) ?_
    refine Ev.bind (spec_In_ev (l.getD i ByteArray.empty) r hm hr hrs) ?_
    by_cases h : inL (L (l.getD i ByteArray.empty)) r = true
    · have e : bestIn r b (l.getD i ByteArray.empty :: l.drop (i + 1)) = bestIn r (l.getD i ByteArray.empty) (l.drop (i + 1)) := by
        show bestIn r (if _ = true then _ else _) _ = _
        rw [if_pos h]
      rw [e]
      exact ev_pos h (ih (i + 1) _ (by omega))
    · have e : bestIn r b (l.getD i ByteArray.empty :: l.drop (i + 1)) = bestIn r b (l.drop (i + 1)) := by
        show bestIn r (if _ = true then _ else _) _ = _
        rw [if_neg h]
      rw [e]
      exact ev_neg h (ih (i + 1) _ (by omega))
theorem impl_pick_loop (r : List S86) (hr : r.length ≤ 1048576) (hrs : ∀ b ∈ r, b.f0.size ≤ 1048576 ∧ b.f1.size ≤ 1048576) (l : List ByteArray) (hl : l.length ≤ 1048577) (hs : ∀ x ∈ l, x.size ≤ 1048576) : ∀ n, n ≤ l.length →
    Ev (fun k => impl_Pick.l0 k r l ((n : Int) - 1)) (bestIn r ⟨#[]⟩ (l.take n)) := by
  intro n
  induction n with
  | zero =>
    intro _
    rw [List.take_zero]
    exact Ev.step (f := fun _ => some (⟨#[]⟩ : ByteArray)) (fun k => by rw [impl_Pick.l0, if_neg (by omega)]) (Ev.now _)
  | succ n ih =>
    intro hn
    have hlt : n < l.length := by omega
    have h2 := hs _ (getD_mem l n ByteArray.empty hlt)
    have es : rdOf ByteArray.empty l (n : Int) = l.getD n ByteArray.empty := rfl
    have e : ((n + 1 : Nat) : Int) - 1 = (n : Int) := by omega
    have ew : wrap64 ((n : Int) - 1) = (n : Int) - 1 := w64 (by omega) (by omega)
    have et : l.take (n + 1) = l.take n ++ [l.getD n ByteArray.empty] := by
      rw [List.take_succ_eq_append_getElem hlt, List.getD_eq_getElem?_getD, List.getElem?_eq_getElem hlt]; rfl
    rw [e, et, bestIn_snoc]
    refine Ev.step (fun k => by rw [impl_Pick.l0, if_pos (by omega), if_pos (by omega), if_pos (by omega), es, ew]) ?_
    refine Ev.bind (impl_In_ev _ r h2 hr hrs) ?_
    by_cases h : inL (L (l.getD n ByteArray.empty)) r = true
    · rw [if_pos h]; exact ev_pos h (Ev.now _)
    · rw [if_neg h]; exact ev_neg h (ih (by omega))
theorem spec_Pick_ev (l : List ByteArray) (hl : l.length ≤ 1048576) (hs : ∀ x ∈ l, x.size ≤ 1048576) (r : List S86) (hr : r.length ≤ 1048576) (hrs : ∀ b ∈ r, b.f0.size ≤ 1048576 ∧ b.f1.size ≤ 1048576) : Ev (fun k => spec_Pick.f k l r) (bestIn r ⟨#[]⟩ ((sorted cmpS ((l.map L).filter isVer)).map S)) := by
  unfold spec_Pick.f
  refine Ev.bind (spec_SortVersions_ev l hl hs) ?_
  have := spec_pick_loop r hr hrs _ (sorted_small l hl) (fun x hx => (sorted_ver l hs x hx).2) _ 0 ⟨#[]⟩ (Nat.zero_add _)
  rw [List.drop_zero] at this
  exact this
theorem impl_Pick_ev (l : List ByteArray) (hl : l.length ≤ 1048576) (hs : ∀ x ∈ l, x.size ≤ 1048576) (r : List S86) (hr : r.length ≤ 1048576) (hrs : ∀ b ∈ r, b.f0.size ≤ 1048576 ∧ b.f1.size ≤ 1048576) : Ev (fun k => impl_Pick.f k l r) (bestIn r ⟨#[]⟩ ((sorted cmpS ((l.map L).filter isVer)).map S)) := by
  unfold impl_Pick.f
  have hf : impl_SortVersions.f l = some ((sorted cmpS ((l.map L).filter isVer)).map S) := by unfold impl_SortVersions.f; rw [if_pos ⟨hl, hs⟩]
  rw [hf]
  have := impl_pick_loop r hr hrs _ (sorted_small l hl) (fun x hx => (sorted_ver l hs x hx).2) _ (Nat.le_refl _)
  rw [List.take_length] at this
  have ew : ∀ n : Nat, n ≤ 1048577 → wrap64 ((n : Int) - 1) = (n : Int) - 1 := fun n hn => w64 (by omega) (by omega)
  show Ev (fun k => impl_Pick.l0 k _ _ (wrap64 _)) _
  rw [ew _ (sorted_small l hl)]
  exact this
end Go.Proofs.YtcfeihimmboghaaGreatDoor.U

end
section
namespace Go.Proofs.YtcfeihimmboghaaGreatDoor.U
open Go Go.RowKit Go.Proofs.YtcfeihimmboghaaGreatDoorW.PrintWords Go.Proofs.YtcfeihimmboghaaGreatDoor.G
set_option linter.unusedVariables false
set_option maxRecDepth 100000
theorem eqStringS_ok (l : List ByteArray) (h : l.length ≤ maxLen) : Ev (fun k => laws_eqStringS.f k l l) true := by
  unfold laws_eqStringS.f
  refine ev_pos rfl ?_
  refine eq_loop l ByteArray.empty (fun k i => laws_eqStringS.l0 k l l i) (fun _ x => some true) h ?_ ?_ (fun _ _ => Ev.now _)
  · intro k i hi
    show laws_eqStringS.l0 (k + 1) l l (i : Int) = _
    rw [laws_eqStringS.l0, if_pos (by omega), if_pos (by omega), if_pos (by omega), if_pos rfl]
    rfl
  · intro k
    show laws_eqStringS.l0 (k + 1) l l (l.length : Int) = _
    rw [laws_eqStringS.l0, if_neg (by omega)]
theorem szStringS_ok (l : List ByteArray) (h : l.length ≤ maxLen ∧ ∀ x_ ∈ l, x_.size ≤ maxLen) : Sz (fun k left => laws_szStringS.f k l left) (w_StringS l) := by
  have hs : ∀ x ∈ l, Sz (fun _ left => if wrap64 (left - (x.size : Int)) < 0 then some (-1) else some (wrap64 (left - (x.size : Int)))) (x.size : Int) := fun x hx => ⟨by omega, fun left hr => sz_last hr (h.2 x hx)⟩
  refine ⟨w_StringS_nonneg l, fun left hr => ?_⟩
  show Ev (fun k => laws_szStringS.f k l left) _
  unfold laws_szStringS.f w_StringS wList
  rw [room_sub hr h.1]
  refine sz_cut' hr (sumW_nonneg fun x hx => (hs x hx).1) fun hb hr => ?_
  refine sz_loop l ByteArray.empty (fun s => (s.size : Int)) (fun k i st => laws_szStringS.l0 k l st i) (fun _ x left => if wrap64 (left - (x.size : Int)) < 0 then some (-1) else some (wrap64 (left - (x.size : Int)))) h.1 ?_ ?_ hs _ hr
  · intro k i st hi
    show laws_szStringS.l0 (k + 1) l st (i : Int) = _
    rw [laws_szStringS.l0, if_pos (by omega), if_pos (by omega)]
    show (if wrap64 (st - ((l.getD i ByteArray.empty).size : Int)) < 0 then some (-1) else laws_szStringS.l0 k l (wrap64 (st - ((l.getD i ByteArray.empty).size : Int))) (wrap64 ((i : Int) + 1))) = _
    generalize wrap64 (st - ((l.getD i ByteArray.empty).size : Int)) = y
    by_cases hy : y < 0
    · simp only [if_pos hy]; rfl
    · simp only [if_neg hy]; show _ = (if y < 0 then _ else _); rw [if_neg hy]
  · intro k st
    show laws_szStringS.l0 (k + 1) l st (l.length : Int) = _
    rw [laws_szStringS.l0, if_neg (by omega)]
theorem toStringS_ok (l : List ByteArray) (h : l.length ≤ maxLen ∧ ∀ x_ ∈ l, x_.size ≤ maxLen) (hw : w_StringS l ≤ 1048576) : Ev (fun k => laws_toStringS.f k l) (l) := by
  have hl := w_StringS_len l
  have e : ((l.length : Int)).toNat = l.length := Int.toNat_natCast _
  unfold laws_toStringS.f
  rw [e]
  refine ev_pos (by omega) (ev_pos (by omega) ?_)
  have := to_loop l ByteArray.empty (⟨#[]⟩ : ByteArray) id (fun k i st => laws_toStringS.l0 k l st i) h.1 ?_ ?_
  · rw [List.map_id] at this; exact this
  · intro k i st hi hs
    show laws_toStringS.l0 (k + 1) l st (i : Int) = _
    rw [laws_toStringS.l0, if_pos (by omega), if_pos (by omega), if_pos (by omega)]
    rfl
  · intro k st
    show laws_toStringS.l0 (k + 1) l st (l.length : Int) = _
    rw [laws_toStringS.l0, if_neg (by omega)]
theorem eqBound_ok (f0 : ByteArray)  (f1 : ByteArray)  : Ev (fun k => laws_eqBound.f f0 f1 f0 f1) true := by
  unfold laws_eqBound.f
  refine ev_pos rfl ?_
  refine ev_pos rfl ?_
  exact Ev.now _
theorem eqBoundS_ok (l : List S86) (h : l.length ≤ maxLen) : Ev (fun k => laws_eqBoundS.f k l l) true := by
  unfold laws_eqBoundS.f
  refine ev_pos rfl ?_
  refine eq_loop l z86 (fun k i => laws_eqBoundS.l0 k l l i) (fun k x => laws_eqBound.f x.f0 x.f1 x.f0 x.f1) h ?_ ?_ (fun x hx => eqBound_ok x.f0 x.f1)
  · intro k i hi
    show laws_eqBoundS.l0 (k + 1) l l (i : Int) = _
    rw [laws_eqBoundS.l0, if_pos (by omega), if_pos (by omega), if_pos (by omega)]
    rfl
  · intro k
    show laws_eqBoundS.l0 (k + 1) l l (l.length : Int) = _
    rw [laws_eqBoundS.l0, if_neg (by omega)]
def w_Bound (f0 : ByteArray) (f1 : ByteArray) : Int := (f0.size : Int) + ((f1.size : Int) + (0))
theorem w_Bound_nonneg (f0 : ByteArray) (f1 : ByteArray) : 0 ≤ w_Bound f0 f1 := by
  unfold w_Bound
  omega
def w_BoundS (l : List S133) : Int := wList (fun x => w_Bound x.f0 x.f1) l
theorem w_BoundS_nonneg (l : List S133) : 0 ≤ w_BoundS l := wList_nonneg fun x _ => w_Bound_nonneg _ _
theorem w_BoundS_len (l : List S133) : (l.length : Int) ≤ w_BoundS l := wList_len fun x _ => w_Bound_nonneg _ _
theorem w_BoundS_mem {l : List S133} {x : S133} (hx : x ∈ l) : w_Bound x.f0 x.f1 ≤ w_BoundS l := wList_mem (w := fun x : S133 => w_Bound x.f0 x.f1) (fun x _ => w_Bound_nonneg _ _) hx
theorem szBound_ok (f0 : ByteArray) (h0 : f0.size ≤ maxLen) (f1 : ByteArray) (h1 : f1.size ≤ maxLen) : Sz (fun k left => laws_szBound.f f0 f1 left) (w_Bound f0 f1) := by
  refine ⟨w_Bound_nonneg f0 f1, fun left hr => ?_⟩
  show Ev (fun k => laws_szBound.f f0 f1 left) _
  unfold laws_szBound.f w_Bound
  rw [room_sub hr h0]
  refine sz_cut' hr (by omega) fun hb hr => ?_
  rw [room_sub hr h1]
  refine sz_cut' hr (by omega) fun hb hr => ?_
  exact sz_done hr
theorem szBoundS_ok (l : List S133) (h : l.length ≤ maxLen ∧ ∀ x_ ∈ l, (x_.f0.size ≤ maxLen ∧ x_.f1.size ≤ maxLen)) : Sz (fun k left => laws_szBoundS.f k l left) (w_BoundS l) := by
  have hs : ∀ x ∈ l, Sz (fun k left => laws_szBound.f x.f0 x.f1 left) (w_Bound x.f0 x.f1) := fun x hx => by
    have hx' := h.2 x hx
    exact szBound_ok x.f0 hx'.1 x.f1 hx'.2
  refine ⟨w_BoundS_nonneg l, fun left hr => ?_⟩
  show Ev (fun k => laws_szBoundS.f k l left) _
  unfold laws_szBoundS.f w_BoundS wList
  rw [room_sub hr h.1]
  refine sz_cut' hr (sumW_nonneg fun x hx => (hs x hx).1) fun hb hr => ?_
  refine sz_loop l z133 (fun x => w_Bound x.f0 x.f1) (fun k i st => laws_szBoundS.l0 k l st i) (fun k x left => laws_szBound.f x.f0 x.f1 left) h.1 ?_ ?_ hs _ hr
  · intro k i st hi
    show laws_szBoundS.l0 (k + 1) l st (i : Int) = _
    rw [laws_szBoundS.l0, if_pos (by omega), if_pos (by omega)]
    rfl
  · intro k st
    show laws_szBoundS.l0 (k + 1) l st (l.length : Int) = _
    rw [laws_szBoundS.l0, if_neg (by omega)]
theorem toBound_ok (f0 : ByteArray) (h0 : f0.size ≤ maxLen) (f1 : ByteArray) (h1 : f1.size ≤ maxLen) (hw : w_Bound f0 f1 ≤ 1048576) : Ev (fun k => laws_toBound.f f0 f1) (f0, f1) := by
  unfold laws_toBound.f
  exact Ev.now _
def t_Bound (x : S133) : S86 := ⟨x.f0, x.f1⟩
theorem toBoundS_ok (l : List S133) (h : l.length ≤ maxLen ∧ ∀ x_ ∈ l, (x_.f0.size ≤ maxLen ∧ x_.f1.size ≤ maxLen)) (hw : w_BoundS l ≤ 1048576) : Ev (fun k => laws_toBoundS.f k l) (l.map t_Bound) := by
  have hl := w_BoundS_len l
  have e : ((l.length : Int)).toNat = l.length := Int.toNat_natCast _
  unfold laws_toBoundS.f
  rw [e]
  refine ev_pos (by omega) (ev_pos (by omega) ?_)
  refine to_loop l z133 _ t_Bound (fun k i st => laws_toBoundS.l0 k l st i) h.1 ?_ ?_
  · intro k i st hi hs
    show laws_toBoundS.l0 (k + 1) l st (i : Int) = _
    rw [laws_toBoundS.l0, if_pos (by omega), if_pos (by omega)]
    show (if (i : Int) < (st.length : Int) then _ else none) = _
    rw [if_pos (by omega)]
    rfl
  · intro k st
    show laws_toBoundS.l0 (k + 1) l st (l.length : Int) = _
    rw [laws_toBoundS.l0, if_neg (by omega)]
end Go.Proofs.YtcfeihimmboghaaGreatDoor.U

end
section
namespace Go.Proofs.YtcfeihimmboghaaGreatDoor.Pure
open Go Go.RowKit Go.Proofs.YtcfeihimmboghaaGreatDoorW.PrintWords Go.Proofs.YtcfeihimmboghaaGreatDoor.G Go.Proofs.YtcfeihimmboghaaGreatDoor.U
theorem law_szt2 {w left : Int} {g : Nat → Int → Option Int} {f : Nat → Int → Option Bool} (hl : Room left) (hg : Sz g w) (h : w ≤ left → Ev (fun k => f k (left - w)) true) : Ev (fun k => (g k left).bind fun t => if t < 0 then some true else f k t) true := by
  refine Ev.bind (hg.2 left hl) ?_
  by_cases h0 : w ≤ left
  · rw [szOut_pos h0]; exact ev_neg (by omega) (h h0)
  · rw [szOut_neg (by omega)]; exact ev_pos (by omega) (Ev.now _)
theorem FnExactPick : laws_FnExactPick.Pure := by
  intro l r hl hr
  refine Ev.rounds (r := true) ?_
  unfold laws_FnExactPick.f
  have s1 := szStringS_ok l hl
  have s2 := szBoundS_ok r hr
  refine law_szt2 room_all s1 fun hw => ?_
  refine law_szt2 (room_le room_all s1.1 hw) s2 fun hv => ?_
  have n1 := s1.1
  have tl := toStringS_ok l hl hw
  have tr := toBoundS_ok r hr (by omega)
  have h1 := w_StringS_len l
  have hn : l.length ≤ 1048576 := by omega
  have hs : ∀ x ∈ l, x.size ≤ 1048576 := fun x hx => by have := w_StringS_mem hx; omega
  have hlen : (r.map t_Bound).length ≤ 1048576 := by have := w_BoundS_len r; rw [List.length_map]; omega
  have hrs : ∀ b ∈ r.map t_Bound, b.f0.size ≤ 1048576 ∧ b.f1.size ≤ 1048576 := fun b hb => by
    obtain ⟨x, hx, rfl⟩ := List.mem_map.1 hb
    have := w_BoundS_mem hx
    unfold w_Bound at this
    show x.f0.size ≤ _ ∧ x.f1.size ≤ _
    omega
  have e1 := eqStringS_ok l hl.1
  have e2 := eqBoundS_ok (r.map t_Bound) (by unfold maxLen; omega)
  exact Ev.bind tl (Ev.bind tr (Ev.bind (spec_Pick_ev l hn hs _ hlen hrs) (Ev.bind tl (Ev.bind tr (Ev.bind (impl_Pick_ev l hn hs _ hlen hrs) (ev_pos rfl (Ev.bind tl (Ev.bind e1 (ev_pos rfl (Ev.bind tr (Ev.bind e2 (ev_pos rfl (Ev.now _)))))))))))))
end Go.Proofs.YtcfeihimmboghaaGreatDoor.Pure

end
section
namespace Go.Proofs.YtcfeihimmboghaaGreatDoor.fnExactPick
open Go.ChangeShapes Go.WideShapes Go.ChangeAt Go.RowKit Go.Proofs.YtcfeihimmboghaaGreatDoor Go.Proofs.YtcfeihimmboghaaGreatDoor.G Go.Proofs.YtcfeihimmboghaaGreatDoorW.PrintWords
open Go.ChangeMaps (open_string shut_string)
set_option linter.unusedVariables false
set_option linter.unusedSimpArgs false
theorem own : ownKnob Tryz.prog.godebug = none := by kernel_rfl
theorem laidOut : laidOutB Tryz.prog = true := by kernel_rfl
theorem opens133 : Op.Opens Tryz.prog 133 k133 (fun x_ => (x_.f0.size ≤ maxLen ∧ x_.f1.size ≤ maxLen)) := Op.opens_struct (g := (fun x : S133 => (x.f0, x.f1))) (by kernel_rfl) Tryz.underlying133 (fun a => ⟨⟨a.1, a.2⟩, rfl⟩) (Op.opensF_cons rfl (Op.opens_string (by kernel_rfl) Tryz.underlying9) (Op.opensF_one rfl (Op.opens_string (by kernel_rfl) Tryz.underlying9)))
set_option maxRecDepth 100000 in
theorem contract (H : Type) (enc : TypeId × Value → H) (W : World) (base : Nat) (args : Array Value) (ds gs : List (DataW H)) (before : List MemPlace)
    (hval : ∀ (j : Nat) t v, Tryz.f8.params[j]? = some t → args[j]? = some v → Value.okWide Tryz.prog W .any base t v)
    (hW : DataW.Whole enc Tryz.prog Tryz.f8.params.toList Rows.fnExactPickSpec.vars false W args.toList ds gs before) (hFE : Glob FactE W) (hFM : Glob FactM W) (hFT : Glob FactT W) :
    Calls Tryz.prog 8 args W fun e W' => ∃ v, e = .returned v ∧ Rows.fnExactPickSpec.post enc Tryz.prog Tryz.f8 false true false false W args v W' := by
  have hW' := hW
  obtain ⟨p, q, hA0, hV, rfl, hfz, hnd⟩ := hW
  have hA : DataW.TrodAll enc Tryz.prog W 0 (fun _ => true) true Tryz.f8.params.toList args.toList ds p := hA0
  rw [Tryz.params8] at hA hval
  obtain ⟨v0, vs0, d0, ds0, p0, q0, hargs, rfl, rfl, h0, r0⟩ := trodAll_cons hA
  obtain ⟨v1, vs1, d1, ds1, p1, q1, rfl, rfl, rfl, h1, r1⟩ := trodAll_cons r0
  obtain ⟨rfl, rfl, rfl⟩ := trodAll_nil r1
  obtain rfl : args = #[v0, v1] := by cases args; simp_all
  obtain ⟨rfl, rfl⟩ := trodVars_none hV
  obtain ⟨A0, len0, c0, rfl⟩ := okWide_slice Tryz.underlying40 (hval 0 40 v0 rfl rfl)
  have k0 := h0
  have lt0 : ∀ x ∈ p0, x.block < W.heap.size := by obtain ⟨m, hm⟩ := k0; exact DataW.trod_lt m _ _ _ hm
  obtain ⟨l0, rfl, hc0, hr0, z0⟩ := Op.arg_slice (Op.opens_slice (by kernel_rfl) Tryz.underlying40 (Op.opens_string (by kernel_rfl) Tryz.underlying9)) h0
  obtain ⟨A1, len1, c1, rfl⟩ := okWide_slice Tryz.underlying73 (hval 1 73 v1 rfl rfl)
  have k1 := h1
  have lt1 : ∀ x ∈ p1, x.block < W.heap.size := by obtain ⟨m, hm⟩ := k1; exact DataW.trod_lt m _ _ _ hm
  obtain ⟨l1, rfl, hc1, hr1, z1⟩ := Op.arg_slice (Op.opens_slice (by kernel_rfl) Tryz.underlying73 opens133) h1
  clear hA0
  obtain ⟨k, h⟩ := Pure.FnExactPick l0 l1 z0 z1
  refine (laws_FnExactPick.calls k A0 c0 l0 A1 c1 l1 true W hr0 hc0 hr1 hc1 hFE hFM hFT rfl h).mono fun e W' ⟨he, bel0⟩ => ?_
  have bel : Below W.heap.size W W' := bel0
  subst he
  exact ⟨_, rfl, _, _, _, [], _, [], hW', trodAll_mk1 (shut_bool Tryz.underlying4 _), (trodAll_cons_mk (Below.trod laidOut (by kernel_rfl) (of_decide_eq_true (by kernel_rfl)) k0 bel lt0) (trodAll_cons_mk (Below.trod laidOut (by kernel_rfl) (of_decide_eq_true (by kernel_rfl)) k1 bel lt1) trodAll_mk0)), rfl, bel.frame _, fun h => by cases h⟩
theorem laid_met (os : Os) : laidMet Tryz.prog Rows.fnExactPickRow.laid ((Laid.world os).forCall (fun _ _ => 0) ⟨#[], #[.slice none 0 0, .slice none 0 0], []⟩).memory :=
  laidMet_of_run' Laid.fuel (by kernel_rfl) (by kernel_rfl)
theorem reads (os : Os) {H : Type} (enc : TypeId × Value → H) : ∃ places, DataW.whole enc Tryz.prog ((Laid.world os).forCall (fun _ _ => 0) ⟨#[], #[.slice none 0 0, .slice none 0 0], []⟩).memory Tryz.f8.params.toList Rows.fnExactPickSpec.vars false (#[.slice none 0 0, .slice none 0 0] : Array Value).toList 8 = some ([.nil, .nil], [], places) :=
  ⟨[], by kernel_rfl⟩
set_option maxRecDepth 100000 in
theorem lifted (os : Os) (started : os.Started) (H : Type) (enc : TypeId × Value → H) (F : Stop.Interp) :
    ReturnsInHanded {} Tryz.checked os 8 .any ((OpenSpec.ofChange Rows.fnExactPickSpec).preRow enc Tryz.prog Tryz.f8 Rows.fnExactPickRow.domain false Rows.fnExactPickRow.laid) (((OpenSpec.ofChange Rows.fnExactPickSpec).at F).post enc Tryz.prog Tryz.f8 false true false false) := by
  obtain ⟨places, hx⟩ := reads os enc
  refine returnsInHanded_of_row (C := Tryz.checked) (s := OpenSpec.ofChange Rows.fnExactPickSpec) own started (by kernel_rfl) Tryz.func8
    (witness_row_atRef (enc := enc) (C := Tryz.checked) false (Laid.world os) #[.slice none 0 0, .slice none 0 0] rfl (Laid.vars os _) (Laid.heap os _) (by kernel_rfl)
      (OpenSpec.preRow_of_cond 8 hx (by kernel_rfl) (fun k hk => by cases hk) (by kernel_rfl) (laid_met os))) ?_
  intro W base args ds gs before hval hW _ _ _ hL hS _
  exact contract H enc W base args ds gs before hval hW (FactE_of hS hL (fun h => h) (by repeat (first | exact List.Mem.head _ | apply List.Mem.tail)) (by repeat (first | exact List.Mem.head _ | apply List.Mem.tail))) (FactM_of hS hL) (FactT_of hS hL (fun h => h) (by repeat (first | exact List.Mem.head _ | apply List.Mem.tail)))
theorem j10 : (Rows.fnExactPickRow.inPlace == Tryz.prog.inPlace 8) = true := by kernel_rfl
theorem j11 : (Rows.fnExactPickRow.unfollowed == Tryz.prog.unfollowed 8) = true := by kernel_rfl
theorem j12 : (Rows.fnExactPickRow.recurses == Tryz.prog.recurses 8) = true := by kernel_rfl
theorem j13 : (Rows.fnExactPickRow.named == Tryz.prog.varsNamed 8) = true := by kernel_rfl
set_option maxRecDepth 100000 in
theorem closed : joinedFacts Tryz.prog 8 Tryz.f8 (OpenSpec.ofChange Rows.fnExactPickSpec).bare Rows.fnExactPickRow = true :=
  (Facts.and_mk (Facts.and_mk (Facts.and_mk (Facts.and_mk (Facts.and_mk (Facts.and_mk (Facts.and_mk (Facts.and_mk (Facts.and_mk (Facts.and_mk (Facts.and_mk (Facts.and_mk (Facts.and_mk (Facts.and_mk (Facts.and_mk (Facts.and_mk (Facts.and_mk (Facts.and_mk (Facts.and_mk (Facts.and_mk (Facts.and_mk (Facts.and_mk (Facts.and_mk (Facts.and_mk (Facts.and_mk (Facts.and_mk (Facts.and_mk (Facts.and_mk (Facts.and_mk (Facts.and_mk (Facts.and_mk (by kernel_rfl) Facts.laidOut) Facts.mapsRowed) (by kernel_rfl)) (by kernel_rfl)) (by kernel_rfl)) (by kernel_rfl)) (by kernel_rfl)) (by kernel_rfl)) j10) j11) j12) j13) (by kernel_rfl)) (by kernel_rfl)) (by kernel_rfl)) (by kernel_rfl)) (by kernel_rfl)) (by kernel_rfl)) (by kernel_rfl)) (by kernel_rfl)) (by kernel_rfl)) (Facts.plainKeys _ rfl)) (by kernel_rfl)) Facts.heard) Facts.mayEnter) (Facts.lifts _ rfl)) (Facts.make _ rfl)) (by kernel_rfl)) (by kernel_rfl)) (by kernel_rfl)) (by kernel_rfl))
theorem goes : false = Rows.fnExactPickRow.goesBy Tryz.prog := by kernel_rfl
theorem said : Rows.FnExactPickSaid :=
  OpenClaim.holds_of_cond 8 Tryz.f8 rfl rfl rfl rfl rfl rfl rfl ⟨rfl, rfl, rfl, rfl, rfl⟩ rfl rfl rfl rfl rfl (by kernel_rfl) Tryz.func8 closed
    (of_decide_eq_true (by kernel_rfl)) (by unfold Func.isWrapper; first | (rw [if_pos (by decide +kernel)]; kernel_rfl) | (rw [if_neg (by decide +kernel)]; exact ⟨rfl, rfl⟩))
    (fun os started H enc _ F => by rw [OpenClaim.pre_eq_preRow]; exact lifted os started H enc F)
theorem plain (f : FuncId) (fn : Func) (hf : Tryz.pinned.checked.prog.funcNamed "loop.example/g00445/laws.FnExactPick" = some f) (hfn : Tryz.pinned.checked.prog.funcs[f]? = some fn) :
    true = Tryz.pinned.checked.prog.looks [] ∧ ∀ (j : Nat) t, fn.params[j]? = some t → Tryz.pinned.checked.prog.wantsStandIn t = false := by
  obtain rfl : f = 8 := Option.some.inj ((show Tryz.prog.funcNamed "loop.example/g00445/laws.FnExactPick" = some 8 by kernel_rfl).symm.trans hf) |>.symm
  obtain rfl : fn = Tryz.f8 := (Option.some.inj (Tryz.func8.symm.trans hfn)).symm
  refine ⟨Facts.looks, fun j t ht => ?_⟩
  rw [Tryz.params8] at ht
  have hm := Array.mem_of_getElem? ht
  have hall : (#[40, 73] : Array TypeId).all (fun t => Tryz.prog.wantsStandIn t == false) = true := by kernel_rfl
  show Tryz.prog.wantsStandIn t = false
  have h1 := Array.all_eq_true'.1 hall t hm
  exact beq_iff_eq.1 h1
theorem proved : Rows.FnExactPickCardSaid :=
  Claim7.holds_tied_plain_at .later [] _ _ _ _ said (fun _ h => by cases h) (by kernel_rfl) (fun _ h => by cases h) fnExactPick_row_tie rfl ⟨rfl, rfl⟩ Facts.main rfl plain goes
end Go.Proofs.YtcfeihimmboghaaGreatDoor.fnExactPick
namespace Go.Proofs.YtcfeihimmboghaaGreatDoor
theorem fnExactPick_holds : Rows.FnExactPickCardSaid := fnExactPick.proved
end Go.Proofs.YtcfeihimmboghaaGreatDoor

end
